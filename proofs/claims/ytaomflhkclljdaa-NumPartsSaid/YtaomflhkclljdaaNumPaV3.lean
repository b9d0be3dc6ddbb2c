/-
  What has to hold: printed by the evaluator.
-/
import Derived.Test.YtaomflhkclljdaaNumPaV
set_option linter.unusedVariables false
set_option maxRecDepth 1000000
namespace Go.Proofs.Ytaomflhkclljdaa.Ev
open Go Go.Proofs
theorem vc_np_3 (a b : Int) (β : Bs) (N : Kt) (ex : Nat → Kt → Prop) : roundJ Try.prog toldB 100 20 β (fun _ => 20) (cnOf 0 fun _ => []) ex 4 0 0 lvN (FN a b 3) (mkS []) N =
  br (IntKind.wrap IntKind.i64 (IntKind.wrap IntKind.i32 b) == (0 : Int))
    (br (IntKind.wrap IntKind.i64 (IntKind.wrap IntKind.i32 b) == (0 : Int))
      (br (IntKind.wrap IntKind.i64 (IntKind.wrap IntKind.i32 b) == (0 : Int))
        (N AX.normal
          (mkF (140 : Nat)
            [((0 : Nat), Value.int IntKind.i64 a), ((1 : Nat), Value.int IntKind.i64 b),
              ((5 : Nat), Value.int IntKind.i64 (4 : Int))])
          (mkS []))
        (N AX.ret (mkF (140 : Nat) []) (mkS [])))
      (need (true && !decide (IntKind.wrap IntKind.i64 (IntKind.wrap IntKind.i32 b) = (0 : Int)))
        (br (IntKind.wrap IntKind.i64 (IntKind.wrap IntKind.i32 b) == (0 : Int)) (N AX.ret (mkF (140 : Nat) []) (mkS []))
          (N AX.ret (mkF (140 : Nat) []) (mkS [])))))
    (need (true && !decide (IntKind.wrap IntKind.i64 (IntKind.wrap IntKind.i32 b) = (0 : Int)))
      (br (IntKind.wrap IntKind.i64 (IntKind.wrap IntKind.i32 b) == (0 : Int))
        (br (IntKind.wrap IntKind.i64 (IntKind.wrap IntKind.i32 b) == (0 : Int)) (N AX.ret (mkF (140 : Nat) []) (mkS []))
          (N AX.ret (mkF (140 : Nat) []) (mkS [])))
        (need (true && !decide (IntKind.wrap IntKind.i64 (IntKind.wrap IntKind.i32 b) = (0 : Int)))
          (br (IntKind.wrap IntKind.i64 (IntKind.wrap IntKind.i32 b) == (0 : Int))
            (N AX.ret (mkF (140 : Nat) []) (mkS []))
            (br
              (IntKind.wrap IntKind.i64
                  (IntKind.wrap IntKind.i32
                    (IntKind.wrap IntKind.i64
                      (IntKind.wrap IntKind.i64
                          (IntKind.wrap IntKind.i64
                              (IntKind.wrap IntKind.i32
                                (IntKind.wrap IntKind.i64
                                  (Int.tdiv (IntKind.wrap IntKind.i64 (IntKind.wrap IntKind.i32 a))
                                    (IntKind.wrap IntKind.i64 (IntKind.wrap IntKind.i32 b))))) *
                            IntKind.wrap IntKind.i64 (IntKind.wrap IntKind.i32 b)) +
                        IntKind.wrap IntKind.i64
                          (IntKind.wrap IntKind.i32
                            (Int.tmod (IntKind.wrap IntKind.i64 (IntKind.wrap IntKind.i32 a))
                              (IntKind.wrap IntKind.i64 (IntKind.wrap IntKind.i32 b))))))) !=
                IntKind.wrap IntKind.i64 (IntKind.wrap IntKind.i32 a))
              (N AX.ret (mkF (140 : Nat) []) (mkS []))
              (br
                (IntKind.wrap IntKind.i64
                    (IntKind.wrap IntKind.i32
                      (Int.tmod (IntKind.wrap IntKind.i64 (IntKind.wrap IntKind.i32 a))
                        (IntKind.wrap IntKind.i64 (IntKind.wrap IntKind.i32 b)))) !=
                  (0 : Int))
                (br
                  (!decide
                        (IntKind.wrap IntKind.i64
                            (IntKind.wrap IntKind.i32
                              (Int.tmod (IntKind.wrap IntKind.i64 (IntKind.wrap IntKind.i32 a))
                                (IntKind.wrap IntKind.i64 (IntKind.wrap IntKind.i32 b)))) <
                          (0 : Int)) ==
                      decide (IntKind.wrap IntKind.i64 (IntKind.wrap IntKind.i32 a) < (0 : Int)))
                  (N AX.ret (mkF (140 : Nat) []) (mkS []))
                  (br (IntKind.wrap IntKind.i64 (IntKind.wrap IntKind.i32 b) != (-9223372036854775808 : Int))
                    (br
                      (decide
                        (IntKind.wrap IntKind.i64
                            (IntKind.wrap IntKind.i32
                              (Int.tmod (IntKind.wrap IntKind.i64 (IntKind.wrap IntKind.i32 a))
                                (IntKind.wrap IntKind.i64 (IntKind.wrap IntKind.i32 b)))) ≥
                          (0 : Int)))
                      (br (decide (IntKind.wrap IntKind.i64 (IntKind.wrap IntKind.i32 b) > (0 : Int)))
                        (br
                          (decide
                            (IntKind.wrap IntKind.i64
                                (IntKind.wrap IntKind.i32
                                  (Int.tmod (IntKind.wrap IntKind.i64 (IntKind.wrap IntKind.i32 a))
                                    (IntKind.wrap IntKind.i64 (IntKind.wrap IntKind.i32 b)))) ≥
                              IntKind.wrap IntKind.i64 (IntKind.wrap IntKind.i32 b)))
                          (N AX.ret (mkF (140 : Nat) []) (mkS []))
                          (br
                            (decide
                              (IntKind.wrap IntKind.i64
                                  (IntKind.wrap IntKind.i32
                                    (Int.tmod (IntKind.wrap IntKind.i64 (IntKind.wrap IntKind.i32 a))
                                      (IntKind.wrap IntKind.i64 (IntKind.wrap IntKind.i32 b)))) ≥
                                (0 : Int)))
                            (br (decide (IntKind.wrap IntKind.i64 (IntKind.wrap IntKind.i32 b) < (0 : Int)))
                              (br
                                (decide
                                  (IntKind.wrap IntKind.i64
                                      (IntKind.wrap IntKind.i32
                                        (Int.tmod (IntKind.wrap IntKind.i64 (IntKind.wrap IntKind.i32 a))
                                          (IntKind.wrap IntKind.i64 (IntKind.wrap IntKind.i32 b)))) ≥
                                    IntKind.wrap IntKind.i64
                                      ((0 : Int) - IntKind.wrap IntKind.i64 (IntKind.wrap IntKind.i32 b))))
                                (N AX.ret (mkF (140 : Nat) []) (mkS []))
                                (br
                                  (decide
                                    (IntKind.wrap IntKind.i64
                                        (IntKind.wrap IntKind.i32
                                          (Int.tmod (IntKind.wrap IntKind.i64 (IntKind.wrap IntKind.i32 a))
                                            (IntKind.wrap IntKind.i64 (IntKind.wrap IntKind.i32 b)))) <
                                      (0 : Int)))
                                  (br (decide (IntKind.wrap IntKind.i64 (IntKind.wrap IntKind.i32 b) > (0 : Int)))
                                    (br
                                      (decide
                                        (IntKind.wrap IntKind.i64
                                            ((0 : Int) -
                                              IntKind.wrap IntKind.i64
                                                (IntKind.wrap IntKind.i32
                                                  (Int.tmod (IntKind.wrap IntKind.i64 (IntKind.wrap IntKind.i32 a))
                                                    (IntKind.wrap IntKind.i64 (IntKind.wrap IntKind.i32 b))))) ≥
                                          IntKind.wrap IntKind.i64 (IntKind.wrap IntKind.i32 b)))
                                      (N AX.ret (mkF (140 : Nat) []) (mkS []))
                                      (br
                                        (decide
                                          (IntKind.wrap IntKind.i64
                                              (IntKind.wrap IntKind.i32
                                                (Int.tmod (IntKind.wrap IntKind.i64 (IntKind.wrap IntKind.i32 a))
                                                  (IntKind.wrap IntKind.i64 (IntKind.wrap IntKind.i32 b)))) <
                                            (0 : Int)))
                                        (br (decide (IntKind.wrap IntKind.i64 (IntKind.wrap IntKind.i32 b) < (0 : Int)))
                                          (br
                                            (decide
                                              (IntKind.wrap IntKind.i64
                                                  (IntKind.wrap IntKind.i32
                                                    (Int.tmod (IntKind.wrap IntKind.i64 (IntKind.wrap IntKind.i32 a))
                                                      (IntKind.wrap IntKind.i64 (IntKind.wrap IntKind.i32 b)))) ≤
                                                IntKind.wrap IntKind.i64 (IntKind.wrap IntKind.i32 b)))
                                            (N AX.ret (mkF (140 : Nat) []) (mkS []))
                                            (N AX.normal
                                              (mkF (140 : Nat)
                                                [((0 : Nat), Value.int IntKind.i64 a),
                                                  ((1 : Nat), Value.int IntKind.i64 b),
                                                  ((5 : Nat), Value.int IntKind.i64 (4 : Int))])
                                              (mkS [])))
                                          (N AX.normal
                                            (mkF (140 : Nat)
                                              [((0 : Nat), Value.int IntKind.i64 a), ((1 : Nat), Value.int IntKind.i64 b),
                                                ((5 : Nat), Value.int IntKind.i64 (4 : Int))])
                                            (mkS [])))
                                        (N AX.normal
                                          (mkF (140 : Nat)
                                            [((0 : Nat), Value.int IntKind.i64 a), ((1 : Nat), Value.int IntKind.i64 b),
                                              ((5 : Nat), Value.int IntKind.i64 (4 : Int))])
                                          (mkS []))))
                                    (br
                                      (decide
                                        (IntKind.wrap IntKind.i64
                                            (IntKind.wrap IntKind.i32
                                              (Int.tmod (IntKind.wrap IntKind.i64 (IntKind.wrap IntKind.i32 a))
                                                (IntKind.wrap IntKind.i64 (IntKind.wrap IntKind.i32 b)))) <
                                          (0 : Int)))
                                      (br (decide (IntKind.wrap IntKind.i64 (IntKind.wrap IntKind.i32 b) < (0 : Int)))
                                        (br
                                          (decide
                                            (IntKind.wrap IntKind.i64
                                                (IntKind.wrap IntKind.i32
                                                  (Int.tmod (IntKind.wrap IntKind.i64 (IntKind.wrap IntKind.i32 a))
                                                    (IntKind.wrap IntKind.i64 (IntKind.wrap IntKind.i32 b)))) ≤
                                              IntKind.wrap IntKind.i64 (IntKind.wrap IntKind.i32 b)))
                                          (N AX.ret (mkF (140 : Nat) []) (mkS []))
                                          (N AX.normal
                                            (mkF (140 : Nat)
                                              [((0 : Nat), Value.int IntKind.i64 a), ((1 : Nat), Value.int IntKind.i64 b),
                                                ((5 : Nat), Value.int IntKind.i64 (4 : Int))])
                                            (mkS [])))
                                        (N AX.normal
                                          (mkF (140 : Nat)
                                            [((0 : Nat), Value.int IntKind.i64 a), ((1 : Nat), Value.int IntKind.i64 b),
                                              ((5 : Nat), Value.int IntKind.i64 (4 : Int))])
                                          (mkS [])))
                                      (N AX.normal
                                        (mkF (140 : Nat)
                                          [((0 : Nat), Value.int IntKind.i64 a), ((1 : Nat), Value.int IntKind.i64 b),
                                            ((5 : Nat), Value.int IntKind.i64 (4 : Int))])
                                        (mkS []))))
                                  (br
                                    (decide
                                      (IntKind.wrap IntKind.i64
                                          (IntKind.wrap IntKind.i32
                                            (Int.tmod (IntKind.wrap IntKind.i64 (IntKind.wrap IntKind.i32 a))
                                              (IntKind.wrap IntKind.i64 (IntKind.wrap IntKind.i32 b)))) <
                                        (0 : Int)))
                                    (br (decide (IntKind.wrap IntKind.i64 (IntKind.wrap IntKind.i32 b) < (0 : Int)))
                                      (br
                                        (decide
                                          (IntKind.wrap IntKind.i64
                                              (IntKind.wrap IntKind.i32
                                                (Int.tmod (IntKind.wrap IntKind.i64 (IntKind.wrap IntKind.i32 a))
                                                  (IntKind.wrap IntKind.i64 (IntKind.wrap IntKind.i32 b)))) ≤
                                            IntKind.wrap IntKind.i64 (IntKind.wrap IntKind.i32 b)))
                                        (N AX.ret (mkF (140 : Nat) []) (mkS []))
                                        (N AX.normal
                                          (mkF (140 : Nat)
                                            [((0 : Nat), Value.int IntKind.i64 a), ((1 : Nat), Value.int IntKind.i64 b),
                                              ((5 : Nat), Value.int IntKind.i64 (4 : Int))])
                                          (mkS [])))
                                      (N AX.normal
                                        (mkF (140 : Nat)
                                          [((0 : Nat), Value.int IntKind.i64 a), ((1 : Nat), Value.int IntKind.i64 b),
                                            ((5 : Nat), Value.int IntKind.i64 (4 : Int))])
                                        (mkS [])))
                                    (N AX.normal
                                      (mkF (140 : Nat)
                                        [((0 : Nat), Value.int IntKind.i64 a), ((1 : Nat), Value.int IntKind.i64 b),
                                          ((5 : Nat), Value.int IntKind.i64 (4 : Int))])
                                      (mkS [])))))
                              (br
                                (decide
                                  (IntKind.wrap IntKind.i64
                                      (IntKind.wrap IntKind.i32
                                        (Int.tmod (IntKind.wrap IntKind.i64 (IntKind.wrap IntKind.i32 a))
                                          (IntKind.wrap IntKind.i64 (IntKind.wrap IntKind.i32 b)))) <
                                    (0 : Int)))
                                (br (decide (IntKind.wrap IntKind.i64 (IntKind.wrap IntKind.i32 b) > (0 : Int)))
                                  (br
                                    (decide
                                      (IntKind.wrap IntKind.i64
                                          ((0 : Int) -
                                            IntKind.wrap IntKind.i64
                                              (IntKind.wrap IntKind.i32
                                                (Int.tmod (IntKind.wrap IntKind.i64 (IntKind.wrap IntKind.i32 a))
                                                  (IntKind.wrap IntKind.i64 (IntKind.wrap IntKind.i32 b))))) ≥
                                        IntKind.wrap IntKind.i64 (IntKind.wrap IntKind.i32 b)))
                                    (N AX.ret (mkF (140 : Nat) []) (mkS []))
                                    (br
                                      (decide
                                        (IntKind.wrap IntKind.i64
                                            (IntKind.wrap IntKind.i32
                                              (Int.tmod (IntKind.wrap IntKind.i64 (IntKind.wrap IntKind.i32 a))
                                                (IntKind.wrap IntKind.i64 (IntKind.wrap IntKind.i32 b)))) <
                                          (0 : Int)))
                                      (br (decide (IntKind.wrap IntKind.i64 (IntKind.wrap IntKind.i32 b) < (0 : Int)))
                                        (br
                                          (decide
                                            (IntKind.wrap IntKind.i64
                                                (IntKind.wrap IntKind.i32
                                                  (Int.tmod (IntKind.wrap IntKind.i64 (IntKind.wrap IntKind.i32 a))
                                                    (IntKind.wrap IntKind.i64 (IntKind.wrap IntKind.i32 b)))) ≤
                                              IntKind.wrap IntKind.i64 (IntKind.wrap IntKind.i32 b)))
                                          (N AX.ret (mkF (140 : Nat) []) (mkS []))
                                          (N AX.normal
                                            (mkF (140 : Nat)
                                              [((0 : Nat), Value.int IntKind.i64 a), ((1 : Nat), Value.int IntKind.i64 b),
                                                ((5 : Nat), Value.int IntKind.i64 (4 : Int))])
                                            (mkS [])))
                                        (N AX.normal
                                          (mkF (140 : Nat)
                                            [((0 : Nat), Value.int IntKind.i64 a), ((1 : Nat), Value.int IntKind.i64 b),
                                              ((5 : Nat), Value.int IntKind.i64 (4 : Int))])
                                          (mkS [])))
                                      (N AX.normal
                                        (mkF (140 : Nat)
                                          [((0 : Nat), Value.int IntKind.i64 a), ((1 : Nat), Value.int IntKind.i64 b),
                                            ((5 : Nat), Value.int IntKind.i64 (4 : Int))])
                                        (mkS []))))
                                  (br
                                    (decide
                                      (IntKind.wrap IntKind.i64
                                          (IntKind.wrap IntKind.i32
                                            (Int.tmod (IntKind.wrap IntKind.i64 (IntKind.wrap IntKind.i32 a))
                                              (IntKind.wrap IntKind.i64 (IntKind.wrap IntKind.i32 b)))) <
                                        (0 : Int)))
                                    (br (decide (IntKind.wrap IntKind.i64 (IntKind.wrap IntKind.i32 b) < (0 : Int)))
                                      (br
                                        (decide
                                          (IntKind.wrap IntKind.i64
                                              (IntKind.wrap IntKind.i32
                                                (Int.tmod (IntKind.wrap IntKind.i64 (IntKind.wrap IntKind.i32 a))
                                                  (IntKind.wrap IntKind.i64 (IntKind.wrap IntKind.i32 b)))) ≤
                                            IntKind.wrap IntKind.i64 (IntKind.wrap IntKind.i32 b)))
                                        (N AX.ret (mkF (140 : Nat) []) (mkS []))
                                        (N AX.normal
                                          (mkF (140 : Nat)
                                            [((0 : Nat), Value.int IntKind.i64 a), ((1 : Nat), Value.int IntKind.i64 b),
                                              ((5 : Nat), Value.int IntKind.i64 (4 : Int))])
                                          (mkS [])))
                                      (N AX.normal
                                        (mkF (140 : Nat)
                                          [((0 : Nat), Value.int IntKind.i64 a), ((1 : Nat), Value.int IntKind.i64 b),
                                            ((5 : Nat), Value.int IntKind.i64 (4 : Int))])
                                        (mkS [])))
                                    (N AX.normal
                                      (mkF (140 : Nat)
                                        [((0 : Nat), Value.int IntKind.i64 a), ((1 : Nat), Value.int IntKind.i64 b),
                                          ((5 : Nat), Value.int IntKind.i64 (4 : Int))])
                                      (mkS []))))
                                (br
                                  (decide
                                    (IntKind.wrap IntKind.i64
                                        (IntKind.wrap IntKind.i32
                                          (Int.tmod (IntKind.wrap IntKind.i64 (IntKind.wrap IntKind.i32 a))
                                            (IntKind.wrap IntKind.i64 (IntKind.wrap IntKind.i32 b)))) <
                                      (0 : Int)))
                                  (br (decide (IntKind.wrap IntKind.i64 (IntKind.wrap IntKind.i32 b) < (0 : Int)))
                                    (br
                                      (decide
                                        (IntKind.wrap IntKind.i64
                                            (IntKind.wrap IntKind.i32
                                              (Int.tmod (IntKind.wrap IntKind.i64 (IntKind.wrap IntKind.i32 a))
                                                (IntKind.wrap IntKind.i64 (IntKind.wrap IntKind.i32 b)))) ≤
                                          IntKind.wrap IntKind.i64 (IntKind.wrap IntKind.i32 b)))
                                      (N AX.ret (mkF (140 : Nat) []) (mkS []))
                                      (N AX.normal
                                        (mkF (140 : Nat)
                                          [((0 : Nat), Value.int IntKind.i64 a), ((1 : Nat), Value.int IntKind.i64 b),
                                            ((5 : Nat), Value.int IntKind.i64 (4 : Int))])
                                        (mkS [])))
                                    (N AX.normal
                                      (mkF (140 : Nat)
                                        [((0 : Nat), Value.int IntKind.i64 a), ((1 : Nat), Value.int IntKind.i64 b),
                                          ((5 : Nat), Value.int IntKind.i64 (4 : Int))])
                                      (mkS [])))
                                  (N AX.normal
                                    (mkF (140 : Nat)
                                      [((0 : Nat), Value.int IntKind.i64 a), ((1 : Nat), Value.int IntKind.i64 b),
                                        ((5 : Nat), Value.int IntKind.i64 (4 : Int))])
                                    (mkS [])))))
                            (br
                              (decide
                                (IntKind.wrap IntKind.i64
                                    (IntKind.wrap IntKind.i32
                                      (Int.tmod (IntKind.wrap IntKind.i64 (IntKind.wrap IntKind.i32 a))
                                        (IntKind.wrap IntKind.i64 (IntKind.wrap IntKind.i32 b)))) <
                                  (0 : Int)))
                              (br (decide (IntKind.wrap IntKind.i64 (IntKind.wrap IntKind.i32 b) > (0 : Int)))
                                (br
                                  (decide
                                    (IntKind.wrap IntKind.i64
                                        ((0 : Int) -
                                          IntKind.wrap IntKind.i64
                                            (IntKind.wrap IntKind.i32
                                              (Int.tmod (IntKind.wrap IntKind.i64 (IntKind.wrap IntKind.i32 a))
                                                (IntKind.wrap IntKind.i64 (IntKind.wrap IntKind.i32 b))))) ≥
                                      IntKind.wrap IntKind.i64 (IntKind.wrap IntKind.i32 b)))
                                  (N AX.ret (mkF (140 : Nat) []) (mkS []))
                                  (br
                                    (decide
                                      (IntKind.wrap IntKind.i64
                                          (IntKind.wrap IntKind.i32
                                            (Int.tmod (IntKind.wrap IntKind.i64 (IntKind.wrap IntKind.i32 a))
                                              (IntKind.wrap IntKind.i64 (IntKind.wrap IntKind.i32 b)))) <
                                        (0 : Int)))
                                    (br (decide (IntKind.wrap IntKind.i64 (IntKind.wrap IntKind.i32 b) < (0 : Int)))
                                      (br
                                        (decide
                                          (IntKind.wrap IntKind.i64
                                              (IntKind.wrap IntKind.i32
                                                (Int.tmod (IntKind.wrap IntKind.i64 (IntKind.wrap IntKind.i32 a))
                                                  (IntKind.wrap IntKind.i64 (IntKind.wrap IntKind.i32 b)))) ≤
                                            IntKind.wrap IntKind.i64 (IntKind.wrap IntKind.i32 b)))
                                        (N AX.ret (mkF (140 : Nat) []) (mkS []))
                                        (N AX.normal
                                          (mkF (140 : Nat)
                                            [((0 : Nat), Value.int IntKind.i64 a), ((1 : Nat), Value.int IntKind.i64 b),
                                              ((5 : Nat), Value.int IntKind.i64 (4 : Int))])
                                          (mkS [])))
                                      (N AX.normal
                                        (mkF (140 : Nat)
                                          [((0 : Nat), Value.int IntKind.i64 a), ((1 : Nat), Value.int IntKind.i64 b),
                                            ((5 : Nat), Value.int IntKind.i64 (4 : Int))])
                                        (mkS [])))
                                    (N AX.normal
                                      (mkF (140 : Nat)
                                        [((0 : Nat), Value.int IntKind.i64 a), ((1 : Nat), Value.int IntKind.i64 b),
                                          ((5 : Nat), Value.int IntKind.i64 (4 : Int))])
                                      (mkS []))))
                                (br
                                  (decide
                                    (IntKind.wrap IntKind.i64
                                        (IntKind.wrap IntKind.i32
                                          (Int.tmod (IntKind.wrap IntKind.i64 (IntKind.wrap IntKind.i32 a))
                                            (IntKind.wrap IntKind.i64 (IntKind.wrap IntKind.i32 b)))) <
                                      (0 : Int)))
                                  (br (decide (IntKind.wrap IntKind.i64 (IntKind.wrap IntKind.i32 b) < (0 : Int)))
                                    (br
                                      (decide
                                        (IntKind.wrap IntKind.i64
                                            (IntKind.wrap IntKind.i32
                                              (Int.tmod (IntKind.wrap IntKind.i64 (IntKind.wrap IntKind.i32 a))
                                                (IntKind.wrap IntKind.i64 (IntKind.wrap IntKind.i32 b)))) ≤
                                          IntKind.wrap IntKind.i64 (IntKind.wrap IntKind.i32 b)))
                                      (N AX.ret (mkF (140 : Nat) []) (mkS []))
                                      (N AX.normal
                                        (mkF (140 : Nat)
                                          [((0 : Nat), Value.int IntKind.i64 a), ((1 : Nat), Value.int IntKind.i64 b),
                                            ((5 : Nat), Value.int IntKind.i64 (4 : Int))])
                                        (mkS [])))
                                    (N AX.normal
                                      (mkF (140 : Nat)
                                        [((0 : Nat), Value.int IntKind.i64 a), ((1 : Nat), Value.int IntKind.i64 b),
                                          ((5 : Nat), Value.int IntKind.i64 (4 : Int))])
                                      (mkS [])))
                                  (N AX.normal
                                    (mkF (140 : Nat)
                                      [((0 : Nat), Value.int IntKind.i64 a), ((1 : Nat), Value.int IntKind.i64 b),
                                        ((5 : Nat), Value.int IntKind.i64 (4 : Int))])
                                    (mkS []))))
                              (br
                                (decide
                                  (IntKind.wrap IntKind.i64
                                      (IntKind.wrap IntKind.i32
                                        (Int.tmod (IntKind.wrap IntKind.i64 (IntKind.wrap IntKind.i32 a))
                                          (IntKind.wrap IntKind.i64 (IntKind.wrap IntKind.i32 b)))) <
                                    (0 : Int)))
                                (br (decide (IntKind.wrap IntKind.i64 (IntKind.wrap IntKind.i32 b) < (0 : Int)))
                                  (br
                                    (decide
                                      (IntKind.wrap IntKind.i64
                                          (IntKind.wrap IntKind.i32
                                            (Int.tmod (IntKind.wrap IntKind.i64 (IntKind.wrap IntKind.i32 a))
                                              (IntKind.wrap IntKind.i64 (IntKind.wrap IntKind.i32 b)))) ≤
                                        IntKind.wrap IntKind.i64 (IntKind.wrap IntKind.i32 b)))
                                    (N AX.ret (mkF (140 : Nat) []) (mkS []))
                                    (N AX.normal
                                      (mkF (140 : Nat)
                                        [((0 : Nat), Value.int IntKind.i64 a), ((1 : Nat), Value.int IntKind.i64 b),
                                          ((5 : Nat), Value.int IntKind.i64 (4 : Int))])
                                      (mkS [])))
                                  (N AX.normal
                                    (mkF (140 : Nat)
                                      [((0 : Nat), Value.int IntKind.i64 a), ((1 : Nat), Value.int IntKind.i64 b),
                                        ((5 : Nat), Value.int IntKind.i64 (4 : Int))])
                                    (mkS [])))
                                (N AX.normal
                                  (mkF (140 : Nat)
                                    [((0 : Nat), Value.int IntKind.i64 a), ((1 : Nat), Value.int IntKind.i64 b),
                                      ((5 : Nat), Value.int IntKind.i64 (4 : Int))])
                                  (mkS []))))))
                        (br
                          (decide
                            (IntKind.wrap IntKind.i64
                                (IntKind.wrap IntKind.i32
                                  (Int.tmod (IntKind.wrap IntKind.i64 (IntKind.wrap IntKind.i32 a))
                                    (IntKind.wrap IntKind.i64 (IntKind.wrap IntKind.i32 b)))) ≥
                              (0 : Int)))
                          (br (decide (IntKind.wrap IntKind.i64 (IntKind.wrap IntKind.i32 b) < (0 : Int)))
                            (br
                              (decide
                                (IntKind.wrap IntKind.i64
                                    (IntKind.wrap IntKind.i32
                                      (Int.tmod (IntKind.wrap IntKind.i64 (IntKind.wrap IntKind.i32 a))
                                        (IntKind.wrap IntKind.i64 (IntKind.wrap IntKind.i32 b)))) ≥
                                  IntKind.wrap IntKind.i64
                                    ((0 : Int) - IntKind.wrap IntKind.i64 (IntKind.wrap IntKind.i32 b))))
                              (N AX.ret (mkF (140 : Nat) []) (mkS []))
                              (br
                                (decide
                                  (IntKind.wrap IntKind.i64
                                      (IntKind.wrap IntKind.i32
                                        (Int.tmod (IntKind.wrap IntKind.i64 (IntKind.wrap IntKind.i32 a))
                                          (IntKind.wrap IntKind.i64 (IntKind.wrap IntKind.i32 b)))) <
                                    (0 : Int)))
                                (br (decide (IntKind.wrap IntKind.i64 (IntKind.wrap IntKind.i32 b) > (0 : Int)))
                                  (br
                                    (decide
                                      (IntKind.wrap IntKind.i64
                                          ((0 : Int) -
                                            IntKind.wrap IntKind.i64
                                              (IntKind.wrap IntKind.i32
                                                (Int.tmod (IntKind.wrap IntKind.i64 (IntKind.wrap IntKind.i32 a))
                                                  (IntKind.wrap IntKind.i64 (IntKind.wrap IntKind.i32 b))))) ≥
                                        IntKind.wrap IntKind.i64 (IntKind.wrap IntKind.i32 b)))
                                    (N AX.ret (mkF (140 : Nat) []) (mkS []))
                                    (br
                                      (decide
                                        (IntKind.wrap IntKind.i64
                                            (IntKind.wrap IntKind.i32
                                              (Int.tmod (IntKind.wrap IntKind.i64 (IntKind.wrap IntKind.i32 a))
                                                (IntKind.wrap IntKind.i64 (IntKind.wrap IntKind.i32 b)))) <
                                          (0 : Int)))
                                      (br (decide (IntKind.wrap IntKind.i64 (IntKind.wrap IntKind.i32 b) < (0 : Int)))
                                        (br
                                          (decide
                                            (IntKind.wrap IntKind.i64
                                                (IntKind.wrap IntKind.i32
                                                  (Int.tmod (IntKind.wrap IntKind.i64 (IntKind.wrap IntKind.i32 a))
                                                    (IntKind.wrap IntKind.i64 (IntKind.wrap IntKind.i32 b)))) ≤
                                              IntKind.wrap IntKind.i64 (IntKind.wrap IntKind.i32 b)))
                                          (N AX.ret (mkF (140 : Nat) []) (mkS []))
                                          (N AX.normal
                                            (mkF (140 : Nat)
                                              [((0 : Nat), Value.int IntKind.i64 a), ((1 : Nat), Value.int IntKind.i64 b),
                                                ((5 : Nat), Value.int IntKind.i64 (4 : Int))])
                                            (mkS [])))
                                        (N AX.normal
                                          (mkF (140 : Nat)
                                            [((0 : Nat), Value.int IntKind.i64 a), ((1 : Nat), Value.int IntKind.i64 b),
                                              ((5 : Nat), Value.int IntKind.i64 (4 : Int))])
                                          (mkS [])))
                                      (N AX.normal
                                        (mkF (140 : Nat)
                                          [((0 : Nat), Value.int IntKind.i64 a), ((1 : Nat), Value.int IntKind.i64 b),
                                            ((5 : Nat), Value.int IntKind.i64 (4 : Int))])
                                        (mkS []))))
                                  (br
                                    (decide
                                      (IntKind.wrap IntKind.i64
                                          (IntKind.wrap IntKind.i32
                                            (Int.tmod (IntKind.wrap IntKind.i64 (IntKind.wrap IntKind.i32 a))
                                              (IntKind.wrap IntKind.i64 (IntKind.wrap IntKind.i32 b)))) <
                                        (0 : Int)))
                                    (br (decide (IntKind.wrap IntKind.i64 (IntKind.wrap IntKind.i32 b) < (0 : Int)))
                                      (br
                                        (decide
                                          (IntKind.wrap IntKind.i64
                                              (IntKind.wrap IntKind.i32
                                                (Int.tmod (IntKind.wrap IntKind.i64 (IntKind.wrap IntKind.i32 a))
                                                  (IntKind.wrap IntKind.i64 (IntKind.wrap IntKind.i32 b)))) ≤
                                            IntKind.wrap IntKind.i64 (IntKind.wrap IntKind.i32 b)))
                                        (N AX.ret (mkF (140 : Nat) []) (mkS []))
                                        (N AX.normal
                                          (mkF (140 : Nat)
                                            [((0 : Nat), Value.int IntKind.i64 a), ((1 : Nat), Value.int IntKind.i64 b),
                                              ((5 : Nat), Value.int IntKind.i64 (4 : Int))])
                                          (mkS [])))
                                      (N AX.normal
                                        (mkF (140 : Nat)
                                          [((0 : Nat), Value.int IntKind.i64 a), ((1 : Nat), Value.int IntKind.i64 b),
                                            ((5 : Nat), Value.int IntKind.i64 (4 : Int))])
                                        (mkS [])))
                                    (N AX.normal
                                      (mkF (140 : Nat)
                                        [((0 : Nat), Value.int IntKind.i64 a), ((1 : Nat), Value.int IntKind.i64 b),
                                          ((5 : Nat), Value.int IntKind.i64 (4 : Int))])
                                      (mkS []))))
                                (br
                                  (decide
                                    (IntKind.wrap IntKind.i64
                                        (IntKind.wrap IntKind.i32
                                          (Int.tmod (IntKind.wrap IntKind.i64 (IntKind.wrap IntKind.i32 a))
                                            (IntKind.wrap IntKind.i64 (IntKind.wrap IntKind.i32 b)))) <
                                      (0 : Int)))
                                  (br (decide (IntKind.wrap IntKind.i64 (IntKind.wrap IntKind.i32 b) < (0 : Int)))
                                    (br
                                      (decide
                                        (IntKind.wrap IntKind.i64
                                            (IntKind.wrap IntKind.i32
                                              (Int.tmod (IntKind.wrap IntKind.i64 (IntKind.wrap IntKind.i32 a))
                                                (IntKind.wrap IntKind.i64 (IntKind.wrap IntKind.i32 b)))) ≤
                                          IntKind.wrap IntKind.i64 (IntKind.wrap IntKind.i32 b)))
                                      (N AX.ret (mkF (140 : Nat) []) (mkS []))
                                      (N AX.normal
                                        (mkF (140 : Nat)
                                          [((0 : Nat), Value.int IntKind.i64 a), ((1 : Nat), Value.int IntKind.i64 b),
                                            ((5 : Nat), Value.int IntKind.i64 (4 : Int))])
                                        (mkS [])))
                                    (N AX.normal
                                      (mkF (140 : Nat)
                                        [((0 : Nat), Value.int IntKind.i64 a), ((1 : Nat), Value.int IntKind.i64 b),
                                          ((5 : Nat), Value.int IntKind.i64 (4 : Int))])
                                      (mkS [])))
                                  (N AX.normal
                                    (mkF (140 : Nat)
                                      [((0 : Nat), Value.int IntKind.i64 a), ((1 : Nat), Value.int IntKind.i64 b),
                                        ((5 : Nat), Value.int IntKind.i64 (4 : Int))])
                                    (mkS [])))))
                            (br
                              (decide
                                (IntKind.wrap IntKind.i64
                                    (IntKind.wrap IntKind.i32
                                      (Int.tmod (IntKind.wrap IntKind.i64 (IntKind.wrap IntKind.i32 a))
                                        (IntKind.wrap IntKind.i64 (IntKind.wrap IntKind.i32 b)))) <
                                  (0 : Int)))
                              (br (decide (IntKind.wrap IntKind.i64 (IntKind.wrap IntKind.i32 b) > (0 : Int)))
                                (br
                                  (decide
                                    (IntKind.wrap IntKind.i64
                                        ((0 : Int) -
                                          IntKind.wrap IntKind.i64
                                            (IntKind.wrap IntKind.i32
                                              (Int.tmod (IntKind.wrap IntKind.i64 (IntKind.wrap IntKind.i32 a))
                                                (IntKind.wrap IntKind.i64 (IntKind.wrap IntKind.i32 b))))) ≥
                                      IntKind.wrap IntKind.i64 (IntKind.wrap IntKind.i32 b)))
                                  (N AX.ret (mkF (140 : Nat) []) (mkS []))
                                  (br
                                    (decide
                                      (IntKind.wrap IntKind.i64
                                          (IntKind.wrap IntKind.i32
                                            (Int.tmod (IntKind.wrap IntKind.i64 (IntKind.wrap IntKind.i32 a))
                                              (IntKind.wrap IntKind.i64 (IntKind.wrap IntKind.i32 b)))) <
                                        (0 : Int)))
                                    (br (decide (IntKind.wrap IntKind.i64 (IntKind.wrap IntKind.i32 b) < (0 : Int)))
                                      (br
                                        (decide
                                          (IntKind.wrap IntKind.i64
                                              (IntKind.wrap IntKind.i32
                                                (Int.tmod (IntKind.wrap IntKind.i64 (IntKind.wrap IntKind.i32 a))
                                                  (IntKind.wrap IntKind.i64 (IntKind.wrap IntKind.i32 b)))) ≤
                                            IntKind.wrap IntKind.i64 (IntKind.wrap IntKind.i32 b)))
                                        (N AX.ret (mkF (140 : Nat) []) (mkS []))
                                        (N AX.normal
                                          (mkF (140 : Nat)
                                            [((0 : Nat), Value.int IntKind.i64 a), ((1 : Nat), Value.int IntKind.i64 b),
                                              ((5 : Nat), Value.int IntKind.i64 (4 : Int))])
                                          (mkS [])))
                                      (N AX.normal
                                        (mkF (140 : Nat)
                                          [((0 : Nat), Value.int IntKind.i64 a), ((1 : Nat), Value.int IntKind.i64 b),
                                            ((5 : Nat), Value.int IntKind.i64 (4 : Int))])
                                        (mkS [])))
                                    (N AX.normal
                                      (mkF (140 : Nat)
                                        [((0 : Nat), Value.int IntKind.i64 a), ((1 : Nat), Value.int IntKind.i64 b),
                                          ((5 : Nat), Value.int IntKind.i64 (4 : Int))])
                                      (mkS []))))
                                (br
                                  (decide
                                    (IntKind.wrap IntKind.i64
                                        (IntKind.wrap IntKind.i32
                                          (Int.tmod (IntKind.wrap IntKind.i64 (IntKind.wrap IntKind.i32 a))
                                            (IntKind.wrap IntKind.i64 (IntKind.wrap IntKind.i32 b)))) <
                                      (0 : Int)))
                                  (br (decide (IntKind.wrap IntKind.i64 (IntKind.wrap IntKind.i32 b) < (0 : Int)))
                                    (br
                                      (decide
                                        (IntKind.wrap IntKind.i64
                                            (IntKind.wrap IntKind.i32
                                              (Int.tmod (IntKind.wrap IntKind.i64 (IntKind.wrap IntKind.i32 a))
                                                (IntKind.wrap IntKind.i64 (IntKind.wrap IntKind.i32 b)))) ≤
                                          IntKind.wrap IntKind.i64 (IntKind.wrap IntKind.i32 b)))
                                      (N AX.ret (mkF (140 : Nat) []) (mkS []))
                                      (N AX.normal
                                        (mkF (140 : Nat)
                                          [((0 : Nat), Value.int IntKind.i64 a), ((1 : Nat), Value.int IntKind.i64 b),
                                            ((5 : Nat), Value.int IntKind.i64 (4 : Int))])
                                        (mkS [])))
                                    (N AX.normal
                                      (mkF (140 : Nat)
                                        [((0 : Nat), Value.int IntKind.i64 a), ((1 : Nat), Value.int IntKind.i64 b),
                                          ((5 : Nat), Value.int IntKind.i64 (4 : Int))])
                                      (mkS [])))
                                  (N AX.normal
                                    (mkF (140 : Nat)
                                      [((0 : Nat), Value.int IntKind.i64 a), ((1 : Nat), Value.int IntKind.i64 b),
                                        ((5 : Nat), Value.int IntKind.i64 (4 : Int))])
                                    (mkS []))))
                              (br
                                (decide
                                  (IntKind.wrap IntKind.i64
                                      (IntKind.wrap IntKind.i32
                                        (Int.tmod (IntKind.wrap IntKind.i64 (IntKind.wrap IntKind.i32 a))
                                          (IntKind.wrap IntKind.i64 (IntKind.wrap IntKind.i32 b)))) <
                                    (0 : Int)))
                                (br (decide (IntKind.wrap IntKind.i64 (IntKind.wrap IntKind.i32 b) < (0 : Int)))
                                  (br
                                    (decide
                                      (IntKind.wrap IntKind.i64
                                          (IntKind.wrap IntKind.i32
                                            (Int.tmod (IntKind.wrap IntKind.i64 (IntKind.wrap IntKind.i32 a))
                                              (IntKind.wrap IntKind.i64 (IntKind.wrap IntKind.i32 b)))) ≤
                                        IntKind.wrap IntKind.i64 (IntKind.wrap IntKind.i32 b)))
                                    (N AX.ret (mkF (140 : Nat) []) (mkS []))
                                    (N AX.normal
                                      (mkF (140 : Nat)
                                        [((0 : Nat), Value.int IntKind.i64 a), ((1 : Nat), Value.int IntKind.i64 b),
                                          ((5 : Nat), Value.int IntKind.i64 (4 : Int))])
                                      (mkS [])))
                                  (N AX.normal
                                    (mkF (140 : Nat)
                                      [((0 : Nat), Value.int IntKind.i64 a), ((1 : Nat), Value.int IntKind.i64 b),
                                        ((5 : Nat), Value.int IntKind.i64 (4 : Int))])
                                    (mkS [])))
                                (N AX.normal
                                  (mkF (140 : Nat)
                                    [((0 : Nat), Value.int IntKind.i64 a), ((1 : Nat), Value.int IntKind.i64 b),
                                      ((5 : Nat), Value.int IntKind.i64 (4 : Int))])
                                  (mkS [])))))
                          (br
                            (decide
                              (IntKind.wrap IntKind.i64
                                  (IntKind.wrap IntKind.i32
                                    (Int.tmod (IntKind.wrap IntKind.i64 (IntKind.wrap IntKind.i32 a))
                                      (IntKind.wrap IntKind.i64 (IntKind.wrap IntKind.i32 b)))) <
                                (0 : Int)))
                            (br (decide (IntKind.wrap IntKind.i64 (IntKind.wrap IntKind.i32 b) > (0 : Int)))
                              (br
                                (decide
                                  (IntKind.wrap IntKind.i64
                                      ((0 : Int) -
                                        IntKind.wrap IntKind.i64
                                          (IntKind.wrap IntKind.i32
                                            (Int.tmod (IntKind.wrap IntKind.i64 (IntKind.wrap IntKind.i32 a))
                                              (IntKind.wrap IntKind.i64 (IntKind.wrap IntKind.i32 b))))) ≥
                                    IntKind.wrap IntKind.i64 (IntKind.wrap IntKind.i32 b)))
                                (N AX.ret (mkF (140 : Nat) []) (mkS []))
                                (br
                                  (decide
                                    (IntKind.wrap IntKind.i64
                                        (IntKind.wrap IntKind.i32
                                          (Int.tmod (IntKind.wrap IntKind.i64 (IntKind.wrap IntKind.i32 a))
                                            (IntKind.wrap IntKind.i64 (IntKind.wrap IntKind.i32 b)))) <
                                      (0 : Int)))
                                  (br (decide (IntKind.wrap IntKind.i64 (IntKind.wrap IntKind.i32 b) < (0 : Int)))
                                    (br
                                      (decide
                                        (IntKind.wrap IntKind.i64
                                            (IntKind.wrap IntKind.i32
                                              (Int.tmod (IntKind.wrap IntKind.i64 (IntKind.wrap IntKind.i32 a))
                                                (IntKind.wrap IntKind.i64 (IntKind.wrap IntKind.i32 b)))) ≤
                                          IntKind.wrap IntKind.i64 (IntKind.wrap IntKind.i32 b)))
                                      (N AX.ret (mkF (140 : Nat) []) (mkS []))
                                      (N AX.normal
                                        (mkF (140 : Nat)
                                          [((0 : Nat), Value.int IntKind.i64 a), ((1 : Nat), Value.int IntKind.i64 b),
                                            ((5 : Nat), Value.int IntKind.i64 (4 : Int))])
                                        (mkS [])))
                                    (N AX.normal
                                      (mkF (140 : Nat)
                                        [((0 : Nat), Value.int IntKind.i64 a), ((1 : Nat), Value.int IntKind.i64 b),
                                          ((5 : Nat), Value.int IntKind.i64 (4 : Int))])
                                      (mkS [])))
                                  (N AX.normal
                                    (mkF (140 : Nat)
                                      [((0 : Nat), Value.int IntKind.i64 a), ((1 : Nat), Value.int IntKind.i64 b),
                                        ((5 : Nat), Value.int IntKind.i64 (4 : Int))])
                                    (mkS []))))
                              (br
                                (decide
                                  (IntKind.wrap IntKind.i64
                                      (IntKind.wrap IntKind.i32
                                        (Int.tmod (IntKind.wrap IntKind.i64 (IntKind.wrap IntKind.i32 a))
                                          (IntKind.wrap IntKind.i64 (IntKind.wrap IntKind.i32 b)))) <
                                    (0 : Int)))
                                (br (decide (IntKind.wrap IntKind.i64 (IntKind.wrap IntKind.i32 b) < (0 : Int)))
                                  (br
                                    (decide
                                      (IntKind.wrap IntKind.i64
                                          (IntKind.wrap IntKind.i32
                                            (Int.tmod (IntKind.wrap IntKind.i64 (IntKind.wrap IntKind.i32 a))
                                              (IntKind.wrap IntKind.i64 (IntKind.wrap IntKind.i32 b)))) ≤
                                        IntKind.wrap IntKind.i64 (IntKind.wrap IntKind.i32 b)))
                                    (N AX.ret (mkF (140 : Nat) []) (mkS []))
                                    (N AX.normal
                                      (mkF (140 : Nat)
                                        [((0 : Nat), Value.int IntKind.i64 a), ((1 : Nat), Value.int IntKind.i64 b),
                                          ((5 : Nat), Value.int IntKind.i64 (4 : Int))])
                                      (mkS [])))
                                  (N AX.normal
                                    (mkF (140 : Nat)
                                      [((0 : Nat), Value.int IntKind.i64 a), ((1 : Nat), Value.int IntKind.i64 b),
                                        ((5 : Nat), Value.int IntKind.i64 (4 : Int))])
                                    (mkS [])))
                                (N AX.normal
                                  (mkF (140 : Nat)
                                    [((0 : Nat), Value.int IntKind.i64 a), ((1 : Nat), Value.int IntKind.i64 b),
                                      ((5 : Nat), Value.int IntKind.i64 (4 : Int))])
                                  (mkS []))))
                            (br
                              (decide
                                (IntKind.wrap IntKind.i64
                                    (IntKind.wrap IntKind.i32
                                      (Int.tmod (IntKind.wrap IntKind.i64 (IntKind.wrap IntKind.i32 a))
                                        (IntKind.wrap IntKind.i64 (IntKind.wrap IntKind.i32 b)))) <
                                  (0 : Int)))
                              (br (decide (IntKind.wrap IntKind.i64 (IntKind.wrap IntKind.i32 b) < (0 : Int)))
                                (br
                                  (decide
                                    (IntKind.wrap IntKind.i64
                                        (IntKind.wrap IntKind.i32
                                          (Int.tmod (IntKind.wrap IntKind.i64 (IntKind.wrap IntKind.i32 a))
                                            (IntKind.wrap IntKind.i64 (IntKind.wrap IntKind.i32 b)))) ≤
                                      IntKind.wrap IntKind.i64 (IntKind.wrap IntKind.i32 b)))
                                  (N AX.ret (mkF (140 : Nat) []) (mkS []))
                                  (N AX.normal
                                    (mkF (140 : Nat)
                                      [((0 : Nat), Value.int IntKind.i64 a), ((1 : Nat), Value.int IntKind.i64 b),
                                        ((5 : Nat), Value.int IntKind.i64 (4 : Int))])
                                    (mkS [])))
                                (N AX.normal
                                  (mkF (140 : Nat)
                                    [((0 : Nat), Value.int IntKind.i64 a), ((1 : Nat), Value.int IntKind.i64 b),
                                      ((5 : Nat), Value.int IntKind.i64 (4 : Int))])
                                  (mkS [])))
                              (N AX.normal
                                (mkF (140 : Nat)
                                  [((0 : Nat), Value.int IntKind.i64 a), ((1 : Nat), Value.int IntKind.i64 b),
                                    ((5 : Nat), Value.int IntKind.i64 (4 : Int))])
                                (mkS []))))))
                      (br
                        (decide
                          (IntKind.wrap IntKind.i64
                              (IntKind.wrap IntKind.i32
                                (Int.tmod (IntKind.wrap IntKind.i64 (IntKind.wrap IntKind.i32 a))
                                  (IntKind.wrap IntKind.i64 (IntKind.wrap IntKind.i32 b)))) ≥
                            (0 : Int)))
                        (br (decide (IntKind.wrap IntKind.i64 (IntKind.wrap IntKind.i32 b) < (0 : Int)))
                          (br
                            (decide
                              (IntKind.wrap IntKind.i64
                                  (IntKind.wrap IntKind.i32
                                    (Int.tmod (IntKind.wrap IntKind.i64 (IntKind.wrap IntKind.i32 a))
                                      (IntKind.wrap IntKind.i64 (IntKind.wrap IntKind.i32 b)))) ≥
                                IntKind.wrap IntKind.i64
                                  ((0 : Int) - IntKind.wrap IntKind.i64 (IntKind.wrap IntKind.i32 b))))
                            (N AX.ret (mkF (140 : Nat) []) (mkS []))
                            (br
                              (decide
                                (IntKind.wrap IntKind.i64
                                    (IntKind.wrap IntKind.i32
                                      (Int.tmod (IntKind.wrap IntKind.i64 (IntKind.wrap IntKind.i32 a))
                                        (IntKind.wrap IntKind.i64 (IntKind.wrap IntKind.i32 b)))) <
                                  (0 : Int)))
                              (br (decide (IntKind.wrap IntKind.i64 (IntKind.wrap IntKind.i32 b) > (0 : Int)))
                                (br
                                  (decide
                                    (IntKind.wrap IntKind.i64
                                        ((0 : Int) -
                                          IntKind.wrap IntKind.i64
                                            (IntKind.wrap IntKind.i32
                                              (Int.tmod (IntKind.wrap IntKind.i64 (IntKind.wrap IntKind.i32 a))
                                                (IntKind.wrap IntKind.i64 (IntKind.wrap IntKind.i32 b))))) ≥
                                      IntKind.wrap IntKind.i64 (IntKind.wrap IntKind.i32 b)))
                                  (N AX.ret (mkF (140 : Nat) []) (mkS []))
                                  (br
                                    (decide
                                      (IntKind.wrap IntKind.i64
                                          (IntKind.wrap IntKind.i32
                                            (Int.tmod (IntKind.wrap IntKind.i64 (IntKind.wrap IntKind.i32 a))
                                              (IntKind.wrap IntKind.i64 (IntKind.wrap IntKind.i32 b)))) <
                                        (0 : Int)))
                                    (br (decide (IntKind.wrap IntKind.i64 (IntKind.wrap IntKind.i32 b) < (0 : Int)))
                                      (br
                                        (decide
                                          (IntKind.wrap IntKind.i64
                                              (IntKind.wrap IntKind.i32
                                                (Int.tmod (IntKind.wrap IntKind.i64 (IntKind.wrap IntKind.i32 a))
                                                  (IntKind.wrap IntKind.i64 (IntKind.wrap IntKind.i32 b)))) ≤
                                            IntKind.wrap IntKind.i64 (IntKind.wrap IntKind.i32 b)))
                                        (N AX.ret (mkF (140 : Nat) []) (mkS []))
                                        (N AX.normal
                                          (mkF (140 : Nat)
                                            [((0 : Nat), Value.int IntKind.i64 a), ((1 : Nat), Value.int IntKind.i64 b),
                                              ((5 : Nat), Value.int IntKind.i64 (4 : Int))])
                                          (mkS [])))
                                      (N AX.normal
                                        (mkF (140 : Nat)
                                          [((0 : Nat), Value.int IntKind.i64 a), ((1 : Nat), Value.int IntKind.i64 b),
                                            ((5 : Nat), Value.int IntKind.i64 (4 : Int))])
                                        (mkS [])))
                                    (N AX.normal
                                      (mkF (140 : Nat)
                                        [((0 : Nat), Value.int IntKind.i64 a), ((1 : Nat), Value.int IntKind.i64 b),
                                          ((5 : Nat), Value.int IntKind.i64 (4 : Int))])
                                      (mkS []))))
                                (br
                                  (decide
                                    (IntKind.wrap IntKind.i64
                                        (IntKind.wrap IntKind.i32
                                          (Int.tmod (IntKind.wrap IntKind.i64 (IntKind.wrap IntKind.i32 a))
                                            (IntKind.wrap IntKind.i64 (IntKind.wrap IntKind.i32 b)))) <
                                      (0 : Int)))
                                  (br (decide (IntKind.wrap IntKind.i64 (IntKind.wrap IntKind.i32 b) < (0 : Int)))
                                    (br
                                      (decide
                                        (IntKind.wrap IntKind.i64
                                            (IntKind.wrap IntKind.i32
                                              (Int.tmod (IntKind.wrap IntKind.i64 (IntKind.wrap IntKind.i32 a))
                                                (IntKind.wrap IntKind.i64 (IntKind.wrap IntKind.i32 b)))) ≤
                                          IntKind.wrap IntKind.i64 (IntKind.wrap IntKind.i32 b)))
                                      (N AX.ret (mkF (140 : Nat) []) (mkS []))
                                      (N AX.normal
                                        (mkF (140 : Nat)
                                          [((0 : Nat), Value.int IntKind.i64 a), ((1 : Nat), Value.int IntKind.i64 b),
                                            ((5 : Nat), Value.int IntKind.i64 (4 : Int))])
                                        (mkS [])))
                                    (N AX.normal
                                      (mkF (140 : Nat)
                                        [((0 : Nat), Value.int IntKind.i64 a), ((1 : Nat), Value.int IntKind.i64 b),
                                          ((5 : Nat), Value.int IntKind.i64 (4 : Int))])
                                      (mkS [])))
                                  (N AX.normal
                                    (mkF (140 : Nat)
                                      [((0 : Nat), Value.int IntKind.i64 a), ((1 : Nat), Value.int IntKind.i64 b),
                                        ((5 : Nat), Value.int IntKind.i64 (4 : Int))])
                                    (mkS []))))
                              (br
                                (decide
                                  (IntKind.wrap IntKind.i64
                                      (IntKind.wrap IntKind.i32
                                        (Int.tmod (IntKind.wrap IntKind.i64 (IntKind.wrap IntKind.i32 a))
                                          (IntKind.wrap IntKind.i64 (IntKind.wrap IntKind.i32 b)))) <
                                    (0 : Int)))
                                (br (decide (IntKind.wrap IntKind.i64 (IntKind.wrap IntKind.i32 b) < (0 : Int)))
                                  (br
                                    (decide
                                      (IntKind.wrap IntKind.i64
                                          (IntKind.wrap IntKind.i32
                                            (Int.tmod (IntKind.wrap IntKind.i64 (IntKind.wrap IntKind.i32 a))
                                              (IntKind.wrap IntKind.i64 (IntKind.wrap IntKind.i32 b)))) ≤
                                        IntKind.wrap IntKind.i64 (IntKind.wrap IntKind.i32 b)))
                                    (N AX.ret (mkF (140 : Nat) []) (mkS []))
                                    (N AX.normal
                                      (mkF (140 : Nat)
                                        [((0 : Nat), Value.int IntKind.i64 a), ((1 : Nat), Value.int IntKind.i64 b),
                                          ((5 : Nat), Value.int IntKind.i64 (4 : Int))])
                                      (mkS [])))
                                  (N AX.normal
                                    (mkF (140 : Nat)
                                      [((0 : Nat), Value.int IntKind.i64 a), ((1 : Nat), Value.int IntKind.i64 b),
                                        ((5 : Nat), Value.int IntKind.i64 (4 : Int))])
                                    (mkS [])))
                                (N AX.normal
                                  (mkF (140 : Nat)
                                    [((0 : Nat), Value.int IntKind.i64 a), ((1 : Nat), Value.int IntKind.i64 b),
                                      ((5 : Nat), Value.int IntKind.i64 (4 : Int))])
                                  (mkS [])))))
                          (br
                            (decide
                              (IntKind.wrap IntKind.i64
                                  (IntKind.wrap IntKind.i32
                                    (Int.tmod (IntKind.wrap IntKind.i64 (IntKind.wrap IntKind.i32 a))
                                      (IntKind.wrap IntKind.i64 (IntKind.wrap IntKind.i32 b)))) <
                                (0 : Int)))
                            (br (decide (IntKind.wrap IntKind.i64 (IntKind.wrap IntKind.i32 b) > (0 : Int)))
                              (br
                                (decide
                                  (IntKind.wrap IntKind.i64
                                      ((0 : Int) -
                                        IntKind.wrap IntKind.i64
                                          (IntKind.wrap IntKind.i32
                                            (Int.tmod (IntKind.wrap IntKind.i64 (IntKind.wrap IntKind.i32 a))
                                              (IntKind.wrap IntKind.i64 (IntKind.wrap IntKind.i32 b))))) ≥
                                    IntKind.wrap IntKind.i64 (IntKind.wrap IntKind.i32 b)))
                                (N AX.ret (mkF (140 : Nat) []) (mkS []))
                                (br
                                  (decide
                                    (IntKind.wrap IntKind.i64
                                        (IntKind.wrap IntKind.i32
                                          (Int.tmod (IntKind.wrap IntKind.i64 (IntKind.wrap IntKind.i32 a))
                                            (IntKind.wrap IntKind.i64 (IntKind.wrap IntKind.i32 b)))) <
                                      (0 : Int)))
                                  (br (decide (IntKind.wrap IntKind.i64 (IntKind.wrap IntKind.i32 b) < (0 : Int)))
                                    (br
                                      (decide
                                        (IntKind.wrap IntKind.i64
                                            (IntKind.wrap IntKind.i32
                                              (Int.tmod (IntKind.wrap IntKind.i64 (IntKind.wrap IntKind.i32 a))
                                                (IntKind.wrap IntKind.i64 (IntKind.wrap IntKind.i32 b)))) ≤
                                          IntKind.wrap IntKind.i64 (IntKind.wrap IntKind.i32 b)))
                                      (N AX.ret (mkF (140 : Nat) []) (mkS []))
                                      (N AX.normal
                                        (mkF (140 : Nat)
                                          [((0 : Nat), Value.int IntKind.i64 a), ((1 : Nat), Value.int IntKind.i64 b),
                                            ((5 : Nat), Value.int IntKind.i64 (4 : Int))])
                                        (mkS [])))
                                    (N AX.normal
                                      (mkF (140 : Nat)
                                        [((0 : Nat), Value.int IntKind.i64 a), ((1 : Nat), Value.int IntKind.i64 b),
                                          ((5 : Nat), Value.int IntKind.i64 (4 : Int))])
                                      (mkS [])))
                                  (N AX.normal
                                    (mkF (140 : Nat)
                                      [((0 : Nat), Value.int IntKind.i64 a), ((1 : Nat), Value.int IntKind.i64 b),
                                        ((5 : Nat), Value.int IntKind.i64 (4 : Int))])
                                    (mkS []))))
                              (br
                                (decide
                                  (IntKind.wrap IntKind.i64
                                      (IntKind.wrap IntKind.i32
                                        (Int.tmod (IntKind.wrap IntKind.i64 (IntKind.wrap IntKind.i32 a))
                                          (IntKind.wrap IntKind.i64 (IntKind.wrap IntKind.i32 b)))) <
                                    (0 : Int)))
                                (br (decide (IntKind.wrap IntKind.i64 (IntKind.wrap IntKind.i32 b) < (0 : Int)))
                                  (br
                                    (decide
                                      (IntKind.wrap IntKind.i64
                                          (IntKind.wrap IntKind.i32
                                            (Int.tmod (IntKind.wrap IntKind.i64 (IntKind.wrap IntKind.i32 a))
                                              (IntKind.wrap IntKind.i64 (IntKind.wrap IntKind.i32 b)))) ≤
                                        IntKind.wrap IntKind.i64 (IntKind.wrap IntKind.i32 b)))
                                    (N AX.ret (mkF (140 : Nat) []) (mkS []))
                                    (N AX.normal
                                      (mkF (140 : Nat)
                                        [((0 : Nat), Value.int IntKind.i64 a), ((1 : Nat), Value.int IntKind.i64 b),
                                          ((5 : Nat), Value.int IntKind.i64 (4 : Int))])
                                      (mkS [])))
                                  (N AX.normal
                                    (mkF (140 : Nat)
                                      [((0 : Nat), Value.int IntKind.i64 a), ((1 : Nat), Value.int IntKind.i64 b),
                                        ((5 : Nat), Value.int IntKind.i64 (4 : Int))])
                                    (mkS [])))
                                (N AX.normal
                                  (mkF (140 : Nat)
                                    [((0 : Nat), Value.int IntKind.i64 a), ((1 : Nat), Value.int IntKind.i64 b),
                                      ((5 : Nat), Value.int IntKind.i64 (4 : Int))])
                                  (mkS []))))
                            (br
                              (decide
                                (IntKind.wrap IntKind.i64
                                    (IntKind.wrap IntKind.i32
                                      (Int.tmod (IntKind.wrap IntKind.i64 (IntKind.wrap IntKind.i32 a))
                                        (IntKind.wrap IntKind.i64 (IntKind.wrap IntKind.i32 b)))) <
                                  (0 : Int)))
                              (br (decide (IntKind.wrap IntKind.i64 (IntKind.wrap IntKind.i32 b) < (0 : Int)))
                                (br
                                  (decide
                                    (IntKind.wrap IntKind.i64
                                        (IntKind.wrap IntKind.i32
                                          (Int.tmod (IntKind.wrap IntKind.i64 (IntKind.wrap IntKind.i32 a))
                                            (IntKind.wrap IntKind.i64 (IntKind.wrap IntKind.i32 b)))) ≤
                                      IntKind.wrap IntKind.i64 (IntKind.wrap IntKind.i32 b)))
                                  (N AX.ret (mkF (140 : Nat) []) (mkS []))
                                  (N AX.normal
                                    (mkF (140 : Nat)
                                      [((0 : Nat), Value.int IntKind.i64 a), ((1 : Nat), Value.int IntKind.i64 b),
                                        ((5 : Nat), Value.int IntKind.i64 (4 : Int))])
                                    (mkS [])))
                                (N AX.normal
                                  (mkF (140 : Nat)
                                    [((0 : Nat), Value.int IntKind.i64 a), ((1 : Nat), Value.int IntKind.i64 b),
                                      ((5 : Nat), Value.int IntKind.i64 (4 : Int))])
                                  (mkS [])))
                              (N AX.normal
                                (mkF (140 : Nat)
                                  [((0 : Nat), Value.int IntKind.i64 a), ((1 : Nat), Value.int IntKind.i64 b),
                                    ((5 : Nat), Value.int IntKind.i64 (4 : Int))])
                                (mkS [])))))
                        (br
                          (decide
                            (IntKind.wrap IntKind.i64
                                (IntKind.wrap IntKind.i32
                                  (Int.tmod (IntKind.wrap IntKind.i64 (IntKind.wrap IntKind.i32 a))
                                    (IntKind.wrap IntKind.i64 (IntKind.wrap IntKind.i32 b)))) <
                              (0 : Int)))
                          (br (decide (IntKind.wrap IntKind.i64 (IntKind.wrap IntKind.i32 b) > (0 : Int)))
                            (br
                              (decide
                                (IntKind.wrap IntKind.i64
                                    ((0 : Int) -
                                      IntKind.wrap IntKind.i64
                                        (IntKind.wrap IntKind.i32
                                          (Int.tmod (IntKind.wrap IntKind.i64 (IntKind.wrap IntKind.i32 a))
                                            (IntKind.wrap IntKind.i64 (IntKind.wrap IntKind.i32 b))))) ≥
                                  IntKind.wrap IntKind.i64 (IntKind.wrap IntKind.i32 b)))
                              (N AX.ret (mkF (140 : Nat) []) (mkS []))
                              (br
                                (decide
                                  (IntKind.wrap IntKind.i64
                                      (IntKind.wrap IntKind.i32
                                        (Int.tmod (IntKind.wrap IntKind.i64 (IntKind.wrap IntKind.i32 a))
                                          (IntKind.wrap IntKind.i64 (IntKind.wrap IntKind.i32 b)))) <
                                    (0 : Int)))
                                (br (decide (IntKind.wrap IntKind.i64 (IntKind.wrap IntKind.i32 b) < (0 : Int)))
                                  (br
                                    (decide
                                      (IntKind.wrap IntKind.i64
                                          (IntKind.wrap IntKind.i32
                                            (Int.tmod (IntKind.wrap IntKind.i64 (IntKind.wrap IntKind.i32 a))
                                              (IntKind.wrap IntKind.i64 (IntKind.wrap IntKind.i32 b)))) ≤
                                        IntKind.wrap IntKind.i64 (IntKind.wrap IntKind.i32 b)))
                                    (N AX.ret (mkF (140 : Nat) []) (mkS []))
                                    (N AX.normal
                                      (mkF (140 : Nat)
                                        [((0 : Nat), Value.int IntKind.i64 a), ((1 : Nat), Value.int IntKind.i64 b),
                                          ((5 : Nat), Value.int IntKind.i64 (4 : Int))])
                                      (mkS [])))
                                  (N AX.normal
                                    (mkF (140 : Nat)
                                      [((0 : Nat), Value.int IntKind.i64 a), ((1 : Nat), Value.int IntKind.i64 b),
                                        ((5 : Nat), Value.int IntKind.i64 (4 : Int))])
                                    (mkS [])))
                                (N AX.normal
                                  (mkF (140 : Nat)
                                    [((0 : Nat), Value.int IntKind.i64 a), ((1 : Nat), Value.int IntKind.i64 b),
                                      ((5 : Nat), Value.int IntKind.i64 (4 : Int))])
                                  (mkS []))))
                            (br
                              (decide
                                (IntKind.wrap IntKind.i64
                                    (IntKind.wrap IntKind.i32
                                      (Int.tmod (IntKind.wrap IntKind.i64 (IntKind.wrap IntKind.i32 a))
                                        (IntKind.wrap IntKind.i64 (IntKind.wrap IntKind.i32 b)))) <
                                  (0 : Int)))
                              (br (decide (IntKind.wrap IntKind.i64 (IntKind.wrap IntKind.i32 b) < (0 : Int)))
                                (br
                                  (decide
                                    (IntKind.wrap IntKind.i64
                                        (IntKind.wrap IntKind.i32
                                          (Int.tmod (IntKind.wrap IntKind.i64 (IntKind.wrap IntKind.i32 a))
                                            (IntKind.wrap IntKind.i64 (IntKind.wrap IntKind.i32 b)))) ≤
                                      IntKind.wrap IntKind.i64 (IntKind.wrap IntKind.i32 b)))
                                  (N AX.ret (mkF (140 : Nat) []) (mkS []))
                                  (N AX.normal
                                    (mkF (140 : Nat)
                                      [((0 : Nat), Value.int IntKind.i64 a), ((1 : Nat), Value.int IntKind.i64 b),
                                        ((5 : Nat), Value.int IntKind.i64 (4 : Int))])
                                    (mkS [])))
                                (N AX.normal
                                  (mkF (140 : Nat)
                                    [((0 : Nat), Value.int IntKind.i64 a), ((1 : Nat), Value.int IntKind.i64 b),
                                      ((5 : Nat), Value.int IntKind.i64 (4 : Int))])
                                  (mkS [])))
                              (N AX.normal
                                (mkF (140 : Nat)
                                  [((0 : Nat), Value.int IntKind.i64 a), ((1 : Nat), Value.int IntKind.i64 b),
                                    ((5 : Nat), Value.int IntKind.i64 (4 : Int))])
                                (mkS []))))
                          (br
                            (decide
                              (IntKind.wrap IntKind.i64
                                  (IntKind.wrap IntKind.i32
                                    (Int.tmod (IntKind.wrap IntKind.i64 (IntKind.wrap IntKind.i32 a))
                                      (IntKind.wrap IntKind.i64 (IntKind.wrap IntKind.i32 b)))) <
                                (0 : Int)))
                            (br (decide (IntKind.wrap IntKind.i64 (IntKind.wrap IntKind.i32 b) < (0 : Int)))
                              (br
                                (decide
                                  (IntKind.wrap IntKind.i64
                                      (IntKind.wrap IntKind.i32
                                        (Int.tmod (IntKind.wrap IntKind.i64 (IntKind.wrap IntKind.i32 a))
                                          (IntKind.wrap IntKind.i64 (IntKind.wrap IntKind.i32 b)))) ≤
                                    IntKind.wrap IntKind.i64 (IntKind.wrap IntKind.i32 b)))
                                (N AX.ret (mkF (140 : Nat) []) (mkS []))
                                (N AX.normal
                                  (mkF (140 : Nat)
                                    [((0 : Nat), Value.int IntKind.i64 a), ((1 : Nat), Value.int IntKind.i64 b),
                                      ((5 : Nat), Value.int IntKind.i64 (4 : Int))])
                                  (mkS [])))
                              (N AX.normal
                                (mkF (140 : Nat)
                                  [((0 : Nat), Value.int IntKind.i64 a), ((1 : Nat), Value.int IntKind.i64 b),
                                    ((5 : Nat), Value.int IntKind.i64 (4 : Int))])
                                (mkS [])))
                            (N AX.normal
                              (mkF (140 : Nat)
                                [((0 : Nat), Value.int IntKind.i64 a), ((1 : Nat), Value.int IntKind.i64 b),
                                  ((5 : Nat), Value.int IntKind.i64 (4 : Int))])
                              (mkS []))))))
                    (N AX.normal
                      (mkF (140 : Nat)
                        [((0 : Nat), Value.int IntKind.i64 a), ((1 : Nat), Value.int IntKind.i64 b),
                          ((5 : Nat), Value.int IntKind.i64 (4 : Int))])
                      (mkS []))))
                (br (IntKind.wrap IntKind.i64 (IntKind.wrap IntKind.i32 b) != (-9223372036854775808 : Int))
                  (br
                    (decide
                      (IntKind.wrap IntKind.i64
                          (IntKind.wrap IntKind.i32
                            (Int.tmod (IntKind.wrap IntKind.i64 (IntKind.wrap IntKind.i32 a))
                              (IntKind.wrap IntKind.i64 (IntKind.wrap IntKind.i32 b)))) ≥
                        (0 : Int)))
                    (br (decide (IntKind.wrap IntKind.i64 (IntKind.wrap IntKind.i32 b) > (0 : Int)))
                      (br
                        (decide
                          (IntKind.wrap IntKind.i64
                              (IntKind.wrap IntKind.i32
                                (Int.tmod (IntKind.wrap IntKind.i64 (IntKind.wrap IntKind.i32 a))
                                  (IntKind.wrap IntKind.i64 (IntKind.wrap IntKind.i32 b)))) ≥
                            IntKind.wrap IntKind.i64 (IntKind.wrap IntKind.i32 b)))
                        (N AX.ret (mkF (140 : Nat) []) (mkS []))
                        (br
                          (decide
                            (IntKind.wrap IntKind.i64
                                (IntKind.wrap IntKind.i32
                                  (Int.tmod (IntKind.wrap IntKind.i64 (IntKind.wrap IntKind.i32 a))
                                    (IntKind.wrap IntKind.i64 (IntKind.wrap IntKind.i32 b)))) ≥
                              (0 : Int)))
                          (br (decide (IntKind.wrap IntKind.i64 (IntKind.wrap IntKind.i32 b) < (0 : Int)))
                            (br
                              (decide
                                (IntKind.wrap IntKind.i64
                                    (IntKind.wrap IntKind.i32
                                      (Int.tmod (IntKind.wrap IntKind.i64 (IntKind.wrap IntKind.i32 a))
                                        (IntKind.wrap IntKind.i64 (IntKind.wrap IntKind.i32 b)))) ≥
                                  IntKind.wrap IntKind.i64
                                    ((0 : Int) - IntKind.wrap IntKind.i64 (IntKind.wrap IntKind.i32 b))))
                              (N AX.ret (mkF (140 : Nat) []) (mkS []))
                              (br
                                (decide
                                  (IntKind.wrap IntKind.i64
                                      (IntKind.wrap IntKind.i32
                                        (Int.tmod (IntKind.wrap IntKind.i64 (IntKind.wrap IntKind.i32 a))
                                          (IntKind.wrap IntKind.i64 (IntKind.wrap IntKind.i32 b)))) <
                                    (0 : Int)))
                                (br (decide (IntKind.wrap IntKind.i64 (IntKind.wrap IntKind.i32 b) > (0 : Int)))
                                  (br
                                    (decide
                                      (IntKind.wrap IntKind.i64
                                          ((0 : Int) -
                                            IntKind.wrap IntKind.i64
                                              (IntKind.wrap IntKind.i32
                                                (Int.tmod (IntKind.wrap IntKind.i64 (IntKind.wrap IntKind.i32 a))
                                                  (IntKind.wrap IntKind.i64 (IntKind.wrap IntKind.i32 b))))) ≥
                                        IntKind.wrap IntKind.i64 (IntKind.wrap IntKind.i32 b)))
                                    (N AX.ret (mkF (140 : Nat) []) (mkS []))
                                    (br
                                      (decide
                                        (IntKind.wrap IntKind.i64
                                            (IntKind.wrap IntKind.i32
                                              (Int.tmod (IntKind.wrap IntKind.i64 (IntKind.wrap IntKind.i32 a))
                                                (IntKind.wrap IntKind.i64 (IntKind.wrap IntKind.i32 b)))) <
                                          (0 : Int)))
                                      (br (decide (IntKind.wrap IntKind.i64 (IntKind.wrap IntKind.i32 b) < (0 : Int)))
                                        (br
                                          (decide
                                            (IntKind.wrap IntKind.i64
                                                (IntKind.wrap IntKind.i32
                                                  (Int.tmod (IntKind.wrap IntKind.i64 (IntKind.wrap IntKind.i32 a))
                                                    (IntKind.wrap IntKind.i64 (IntKind.wrap IntKind.i32 b)))) ≤
                                              IntKind.wrap IntKind.i64 (IntKind.wrap IntKind.i32 b)))
                                          (N AX.ret (mkF (140 : Nat) []) (mkS []))
                                          (N AX.normal
                                            (mkF (140 : Nat)
                                              [((0 : Nat), Value.int IntKind.i64 a), ((1 : Nat), Value.int IntKind.i64 b),
                                                ((5 : Nat), Value.int IntKind.i64 (4 : Int))])
                                            (mkS [])))
                                        (N AX.normal
                                          (mkF (140 : Nat)
                                            [((0 : Nat), Value.int IntKind.i64 a), ((1 : Nat), Value.int IntKind.i64 b),
                                              ((5 : Nat), Value.int IntKind.i64 (4 : Int))])
                                          (mkS [])))
                                      (N AX.normal
                                        (mkF (140 : Nat)
                                          [((0 : Nat), Value.int IntKind.i64 a), ((1 : Nat), Value.int IntKind.i64 b),
                                            ((5 : Nat), Value.int IntKind.i64 (4 : Int))])
                                        (mkS []))))
                                  (br
                                    (decide
                                      (IntKind.wrap IntKind.i64
                                          (IntKind.wrap IntKind.i32
                                            (Int.tmod (IntKind.wrap IntKind.i64 (IntKind.wrap IntKind.i32 a))
                                              (IntKind.wrap IntKind.i64 (IntKind.wrap IntKind.i32 b)))) <
                                        (0 : Int)))
                                    (br (decide (IntKind.wrap IntKind.i64 (IntKind.wrap IntKind.i32 b) < (0 : Int)))
                                      (br
                                        (decide
                                          (IntKind.wrap IntKind.i64
                                              (IntKind.wrap IntKind.i32
                                                (Int.tmod (IntKind.wrap IntKind.i64 (IntKind.wrap IntKind.i32 a))
                                                  (IntKind.wrap IntKind.i64 (IntKind.wrap IntKind.i32 b)))) ≤
                                            IntKind.wrap IntKind.i64 (IntKind.wrap IntKind.i32 b)))
                                        (N AX.ret (mkF (140 : Nat) []) (mkS []))
                                        (N AX.normal
                                          (mkF (140 : Nat)
                                            [((0 : Nat), Value.int IntKind.i64 a), ((1 : Nat), Value.int IntKind.i64 b),
                                              ((5 : Nat), Value.int IntKind.i64 (4 : Int))])
                                          (mkS [])))
                                      (N AX.normal
                                        (mkF (140 : Nat)
                                          [((0 : Nat), Value.int IntKind.i64 a), ((1 : Nat), Value.int IntKind.i64 b),
                                            ((5 : Nat), Value.int IntKind.i64 (4 : Int))])
                                        (mkS [])))
                                    (N AX.normal
                                      (mkF (140 : Nat)
                                        [((0 : Nat), Value.int IntKind.i64 a), ((1 : Nat), Value.int IntKind.i64 b),
                                          ((5 : Nat), Value.int IntKind.i64 (4 : Int))])
                                      (mkS []))))
                                (br
                                  (decide
                                    (IntKind.wrap IntKind.i64
                                        (IntKind.wrap IntKind.i32
                                          (Int.tmod (IntKind.wrap IntKind.i64 (IntKind.wrap IntKind.i32 a))
                                            (IntKind.wrap IntKind.i64 (IntKind.wrap IntKind.i32 b)))) <
                                      (0 : Int)))
                                  (br (decide (IntKind.wrap IntKind.i64 (IntKind.wrap IntKind.i32 b) < (0 : Int)))
                                    (br
                                      (decide
                                        (IntKind.wrap IntKind.i64
                                            (IntKind.wrap IntKind.i32
                                              (Int.tmod (IntKind.wrap IntKind.i64 (IntKind.wrap IntKind.i32 a))
                                                (IntKind.wrap IntKind.i64 (IntKind.wrap IntKind.i32 b)))) ≤
                                          IntKind.wrap IntKind.i64 (IntKind.wrap IntKind.i32 b)))
                                      (N AX.ret (mkF (140 : Nat) []) (mkS []))
                                      (N AX.normal
                                        (mkF (140 : Nat)
                                          [((0 : Nat), Value.int IntKind.i64 a), ((1 : Nat), Value.int IntKind.i64 b),
                                            ((5 : Nat), Value.int IntKind.i64 (4 : Int))])
                                        (mkS [])))
                                    (N AX.normal
                                      (mkF (140 : Nat)
                                        [((0 : Nat), Value.int IntKind.i64 a), ((1 : Nat), Value.int IntKind.i64 b),
                                          ((5 : Nat), Value.int IntKind.i64 (4 : Int))])
                                      (mkS [])))
                                  (N AX.normal
                                    (mkF (140 : Nat)
                                      [((0 : Nat), Value.int IntKind.i64 a), ((1 : Nat), Value.int IntKind.i64 b),
                                        ((5 : Nat), Value.int IntKind.i64 (4 : Int))])
                                    (mkS [])))))
                            (br
                              (decide
                                (IntKind.wrap IntKind.i64
                                    (IntKind.wrap IntKind.i32
                                      (Int.tmod (IntKind.wrap IntKind.i64 (IntKind.wrap IntKind.i32 a))
                                        (IntKind.wrap IntKind.i64 (IntKind.wrap IntKind.i32 b)))) <
                                  (0 : Int)))
                              (br (decide (IntKind.wrap IntKind.i64 (IntKind.wrap IntKind.i32 b) > (0 : Int)))
                                (br
                                  (decide
                                    (IntKind.wrap IntKind.i64
                                        ((0 : Int) -
                                          IntKind.wrap IntKind.i64
                                            (IntKind.wrap IntKind.i32
                                              (Int.tmod (IntKind.wrap IntKind.i64 (IntKind.wrap IntKind.i32 a))
                                                (IntKind.wrap IntKind.i64 (IntKind.wrap IntKind.i32 b))))) ≥
                                      IntKind.wrap IntKind.i64 (IntKind.wrap IntKind.i32 b)))
                                  (N AX.ret (mkF (140 : Nat) []) (mkS []))
                                  (br
                                    (decide
                                      (IntKind.wrap IntKind.i64
                                          (IntKind.wrap IntKind.i32
                                            (Int.tmod (IntKind.wrap IntKind.i64 (IntKind.wrap IntKind.i32 a))
                                              (IntKind.wrap IntKind.i64 (IntKind.wrap IntKind.i32 b)))) <
                                        (0 : Int)))
                                    (br (decide (IntKind.wrap IntKind.i64 (IntKind.wrap IntKind.i32 b) < (0 : Int)))
                                      (br
                                        (decide
                                          (IntKind.wrap IntKind.i64
                                              (IntKind.wrap IntKind.i32
                                                (Int.tmod (IntKind.wrap IntKind.i64 (IntKind.wrap IntKind.i32 a))
                                                  (IntKind.wrap IntKind.i64 (IntKind.wrap IntKind.i32 b)))) ≤
                                            IntKind.wrap IntKind.i64 (IntKind.wrap IntKind.i32 b)))
                                        (N AX.ret (mkF (140 : Nat) []) (mkS []))
                                        (N AX.normal
                                          (mkF (140 : Nat)
                                            [((0 : Nat), Value.int IntKind.i64 a), ((1 : Nat), Value.int IntKind.i64 b),
                                              ((5 : Nat), Value.int IntKind.i64 (4 : Int))])
                                          (mkS [])))
                                      (N AX.normal
                                        (mkF (140 : Nat)
                                          [((0 : Nat), Value.int IntKind.i64 a), ((1 : Nat), Value.int IntKind.i64 b),
                                            ((5 : Nat), Value.int IntKind.i64 (4 : Int))])
                                        (mkS [])))
                                    (N AX.normal
                                      (mkF (140 : Nat)
                                        [((0 : Nat), Value.int IntKind.i64 a), ((1 : Nat), Value.int IntKind.i64 b),
                                          ((5 : Nat), Value.int IntKind.i64 (4 : Int))])
                                      (mkS []))))
                                (br
                                  (decide
                                    (IntKind.wrap IntKind.i64
                                        (IntKind.wrap IntKind.i32
                                          (Int.tmod (IntKind.wrap IntKind.i64 (IntKind.wrap IntKind.i32 a))
                                            (IntKind.wrap IntKind.i64 (IntKind.wrap IntKind.i32 b)))) <
                                      (0 : Int)))
                                  (br (decide (IntKind.wrap IntKind.i64 (IntKind.wrap IntKind.i32 b) < (0 : Int)))
                                    (br
                                      (decide
                                        (IntKind.wrap IntKind.i64
                                            (IntKind.wrap IntKind.i32
                                              (Int.tmod (IntKind.wrap IntKind.i64 (IntKind.wrap IntKind.i32 a))
                                                (IntKind.wrap IntKind.i64 (IntKind.wrap IntKind.i32 b)))) ≤
                                          IntKind.wrap IntKind.i64 (IntKind.wrap IntKind.i32 b)))
                                      (N AX.ret (mkF (140 : Nat) []) (mkS []))
                                      (N AX.normal
                                        (mkF (140 : Nat)
                                          [((0 : Nat), Value.int IntKind.i64 a), ((1 : Nat), Value.int IntKind.i64 b),
                                            ((5 : Nat), Value.int IntKind.i64 (4 : Int))])
                                        (mkS [])))
                                    (N AX.normal
                                      (mkF (140 : Nat)
                                        [((0 : Nat), Value.int IntKind.i64 a), ((1 : Nat), Value.int IntKind.i64 b),
                                          ((5 : Nat), Value.int IntKind.i64 (4 : Int))])
                                      (mkS [])))
                                  (N AX.normal
                                    (mkF (140 : Nat)
                                      [((0 : Nat), Value.int IntKind.i64 a), ((1 : Nat), Value.int IntKind.i64 b),
                                        ((5 : Nat), Value.int IntKind.i64 (4 : Int))])
                                    (mkS []))))
                              (br
                                (decide
                                  (IntKind.wrap IntKind.i64
                                      (IntKind.wrap IntKind.i32
                                        (Int.tmod (IntKind.wrap IntKind.i64 (IntKind.wrap IntKind.i32 a))
                                          (IntKind.wrap IntKind.i64 (IntKind.wrap IntKind.i32 b)))) <
                                    (0 : Int)))
                                (br (decide (IntKind.wrap IntKind.i64 (IntKind.wrap IntKind.i32 b) < (0 : Int)))
                                  (br
                                    (decide
                                      (IntKind.wrap IntKind.i64
                                          (IntKind.wrap IntKind.i32
                                            (Int.tmod (IntKind.wrap IntKind.i64 (IntKind.wrap IntKind.i32 a))
                                              (IntKind.wrap IntKind.i64 (IntKind.wrap IntKind.i32 b)))) ≤
                                        IntKind.wrap IntKind.i64 (IntKind.wrap IntKind.i32 b)))
                                    (N AX.ret (mkF (140 : Nat) []) (mkS []))
                                    (N AX.normal
                                      (mkF (140 : Nat)
                                        [((0 : Nat), Value.int IntKind.i64 a), ((1 : Nat), Value.int IntKind.i64 b),
                                          ((5 : Nat), Value.int IntKind.i64 (4 : Int))])
                                      (mkS [])))
                                  (N AX.normal
                                    (mkF (140 : Nat)
                                      [((0 : Nat), Value.int IntKind.i64 a), ((1 : Nat), Value.int IntKind.i64 b),
                                        ((5 : Nat), Value.int IntKind.i64 (4 : Int))])
                                    (mkS [])))
                                (N AX.normal
                                  (mkF (140 : Nat)
                                    [((0 : Nat), Value.int IntKind.i64 a), ((1 : Nat), Value.int IntKind.i64 b),
                                      ((5 : Nat), Value.int IntKind.i64 (4 : Int))])
                                  (mkS [])))))
                          (br
                            (decide
                              (IntKind.wrap IntKind.i64
                                  (IntKind.wrap IntKind.i32
                                    (Int.tmod (IntKind.wrap IntKind.i64 (IntKind.wrap IntKind.i32 a))
                                      (IntKind.wrap IntKind.i64 (IntKind.wrap IntKind.i32 b)))) <
                                (0 : Int)))
                            (br (decide (IntKind.wrap IntKind.i64 (IntKind.wrap IntKind.i32 b) > (0 : Int)))
                              (br
                                (decide
                                  (IntKind.wrap IntKind.i64
                                      ((0 : Int) -
                                        IntKind.wrap IntKind.i64
                                          (IntKind.wrap IntKind.i32
                                            (Int.tmod (IntKind.wrap IntKind.i64 (IntKind.wrap IntKind.i32 a))
                                              (IntKind.wrap IntKind.i64 (IntKind.wrap IntKind.i32 b))))) ≥
                                    IntKind.wrap IntKind.i64 (IntKind.wrap IntKind.i32 b)))
                                (N AX.ret (mkF (140 : Nat) []) (mkS []))
                                (br
                                  (decide
                                    (IntKind.wrap IntKind.i64
                                        (IntKind.wrap IntKind.i32
                                          (Int.tmod (IntKind.wrap IntKind.i64 (IntKind.wrap IntKind.i32 a))
                                            (IntKind.wrap IntKind.i64 (IntKind.wrap IntKind.i32 b)))) <
                                      (0 : Int)))
                                  (br (decide (IntKind.wrap IntKind.i64 (IntKind.wrap IntKind.i32 b) < (0 : Int)))
                                    (br
                                      (decide
                                        (IntKind.wrap IntKind.i64
                                            (IntKind.wrap IntKind.i32
                                              (Int.tmod (IntKind.wrap IntKind.i64 (IntKind.wrap IntKind.i32 a))
                                                (IntKind.wrap IntKind.i64 (IntKind.wrap IntKind.i32 b)))) ≤
                                          IntKind.wrap IntKind.i64 (IntKind.wrap IntKind.i32 b)))
                                      (N AX.ret (mkF (140 : Nat) []) (mkS []))
                                      (N AX.normal
                                        (mkF (140 : Nat)
                                          [((0 : Nat), Value.int IntKind.i64 a), ((1 : Nat), Value.int IntKind.i64 b),
                                            ((5 : Nat), Value.int IntKind.i64 (4 : Int))])
                                        (mkS [])))
                                    (N AX.normal
                                      (mkF (140 : Nat)
                                        [((0 : Nat), Value.int IntKind.i64 a), ((1 : Nat), Value.int IntKind.i64 b),
                                          ((5 : Nat), Value.int IntKind.i64 (4 : Int))])
                                      (mkS [])))
                                  (N AX.normal
                                    (mkF (140 : Nat)
                                      [((0 : Nat), Value.int IntKind.i64 a), ((1 : Nat), Value.int IntKind.i64 b),
                                        ((5 : Nat), Value.int IntKind.i64 (4 : Int))])
                                    (mkS []))))
                              (br
                                (decide
                                  (IntKind.wrap IntKind.i64
                                      (IntKind.wrap IntKind.i32
                                        (Int.tmod (IntKind.wrap IntKind.i64 (IntKind.wrap IntKind.i32 a))
                                          (IntKind.wrap IntKind.i64 (IntKind.wrap IntKind.i32 b)))) <
                                    (0 : Int)))
                                (br (decide (IntKind.wrap IntKind.i64 (IntKind.wrap IntKind.i32 b) < (0 : Int)))
                                  (br
                                    (decide
                                      (IntKind.wrap IntKind.i64
                                          (IntKind.wrap IntKind.i32
                                            (Int.tmod (IntKind.wrap IntKind.i64 (IntKind.wrap IntKind.i32 a))
                                              (IntKind.wrap IntKind.i64 (IntKind.wrap IntKind.i32 b)))) ≤
                                        IntKind.wrap IntKind.i64 (IntKind.wrap IntKind.i32 b)))
                                    (N AX.ret (mkF (140 : Nat) []) (mkS []))
                                    (N AX.normal
                                      (mkF (140 : Nat)
                                        [((0 : Nat), Value.int IntKind.i64 a), ((1 : Nat), Value.int IntKind.i64 b),
                                          ((5 : Nat), Value.int IntKind.i64 (4 : Int))])
                                      (mkS [])))
                                  (N AX.normal
                                    (mkF (140 : Nat)
                                      [((0 : Nat), Value.int IntKind.i64 a), ((1 : Nat), Value.int IntKind.i64 b),
                                        ((5 : Nat), Value.int IntKind.i64 (4 : Int))])
                                    (mkS [])))
                                (N AX.normal
                                  (mkF (140 : Nat)
                                    [((0 : Nat), Value.int IntKind.i64 a), ((1 : Nat), Value.int IntKind.i64 b),
                                      ((5 : Nat), Value.int IntKind.i64 (4 : Int))])
                                  (mkS []))))
                            (br
                              (decide
                                (IntKind.wrap IntKind.i64
                                    (IntKind.wrap IntKind.i32
                                      (Int.tmod (IntKind.wrap IntKind.i64 (IntKind.wrap IntKind.i32 a))
                                        (IntKind.wrap IntKind.i64 (IntKind.wrap IntKind.i32 b)))) <
                                  (0 : Int)))
                              (br (decide (IntKind.wrap IntKind.i64 (IntKind.wrap IntKind.i32 b) < (0 : Int)))
                                (br
                                  (decide
                                    (IntKind.wrap IntKind.i64
                                        (IntKind.wrap IntKind.i32
                                          (Int.tmod (IntKind.wrap IntKind.i64 (IntKind.wrap IntKind.i32 a))
                                            (IntKind.wrap IntKind.i64 (IntKind.wrap IntKind.i32 b)))) ≤
                                      IntKind.wrap IntKind.i64 (IntKind.wrap IntKind.i32 b)))
                                  (N AX.ret (mkF (140 : Nat) []) (mkS []))
                                  (N AX.normal
                                    (mkF (140 : Nat)
                                      [((0 : Nat), Value.int IntKind.i64 a), ((1 : Nat), Value.int IntKind.i64 b),
                                        ((5 : Nat), Value.int IntKind.i64 (4 : Int))])
                                    (mkS [])))
                                (N AX.normal
                                  (mkF (140 : Nat)
                                    [((0 : Nat), Value.int IntKind.i64 a), ((1 : Nat), Value.int IntKind.i64 b),
                                      ((5 : Nat), Value.int IntKind.i64 (4 : Int))])
                                  (mkS [])))
                              (N AX.normal
                                (mkF (140 : Nat)
                                  [((0 : Nat), Value.int IntKind.i64 a), ((1 : Nat), Value.int IntKind.i64 b),
                                    ((5 : Nat), Value.int IntKind.i64 (4 : Int))])
                                (mkS []))))))
                      (br
                        (decide
                          (IntKind.wrap IntKind.i64
                              (IntKind.wrap IntKind.i32
                                (Int.tmod (IntKind.wrap IntKind.i64 (IntKind.wrap IntKind.i32 a))
                                  (IntKind.wrap IntKind.i64 (IntKind.wrap IntKind.i32 b)))) ≥
                            (0 : Int)))
                        (br (decide (IntKind.wrap IntKind.i64 (IntKind.wrap IntKind.i32 b) < (0 : Int)))
                          (br
                            (decide
                              (IntKind.wrap IntKind.i64
                                  (IntKind.wrap IntKind.i32
                                    (Int.tmod (IntKind.wrap IntKind.i64 (IntKind.wrap IntKind.i32 a))
                                      (IntKind.wrap IntKind.i64 (IntKind.wrap IntKind.i32 b)))) ≥
                                IntKind.wrap IntKind.i64
                                  ((0 : Int) - IntKind.wrap IntKind.i64 (IntKind.wrap IntKind.i32 b))))
                            (N AX.ret (mkF (140 : Nat) []) (mkS []))
                            (br
                              (decide
                                (IntKind.wrap IntKind.i64
                                    (IntKind.wrap IntKind.i32
                                      (Int.tmod (IntKind.wrap IntKind.i64 (IntKind.wrap IntKind.i32 a))
                                        (IntKind.wrap IntKind.i64 (IntKind.wrap IntKind.i32 b)))) <
                                  (0 : Int)))
                              (br (decide (IntKind.wrap IntKind.i64 (IntKind.wrap IntKind.i32 b) > (0 : Int)))
                                (br
                                  (decide
                                    (IntKind.wrap IntKind.i64
                                        ((0 : Int) -
                                          IntKind.wrap IntKind.i64
                                            (IntKind.wrap IntKind.i32
                                              (Int.tmod (IntKind.wrap IntKind.i64 (IntKind.wrap IntKind.i32 a))
                                                (IntKind.wrap IntKind.i64 (IntKind.wrap IntKind.i32 b))))) ≥
                                      IntKind.wrap IntKind.i64 (IntKind.wrap IntKind.i32 b)))
                                  (N AX.ret (mkF (140 : Nat) []) (mkS []))
                                  (br
                                    (decide
                                      (IntKind.wrap IntKind.i64
                                          (IntKind.wrap IntKind.i32
                                            (Int.tmod (IntKind.wrap IntKind.i64 (IntKind.wrap IntKind.i32 a))
                                              (IntKind.wrap IntKind.i64 (IntKind.wrap IntKind.i32 b)))) <
                                        (0 : Int)))
                                    (br (decide (IntKind.wrap IntKind.i64 (IntKind.wrap IntKind.i32 b) < (0 : Int)))
                                      (br
                                        (decide
                                          (IntKind.wrap IntKind.i64
                                              (IntKind.wrap IntKind.i32
                                                (Int.tmod (IntKind.wrap IntKind.i64 (IntKind.wrap IntKind.i32 a))
                                                  (IntKind.wrap IntKind.i64 (IntKind.wrap IntKind.i32 b)))) ≤
                                            IntKind.wrap IntKind.i64 (IntKind.wrap IntKind.i32 b)))
                                        (N AX.ret (mkF (140 : Nat) []) (mkS []))
                                        (N AX.normal
                                          (mkF (140 : Nat)
                                            [((0 : Nat), Value.int IntKind.i64 a), ((1 : Nat), Value.int IntKind.i64 b),
                                              ((5 : Nat), Value.int IntKind.i64 (4 : Int))])
                                          (mkS [])))
                                      (N AX.normal
                                        (mkF (140 : Nat)
                                          [((0 : Nat), Value.int IntKind.i64 a), ((1 : Nat), Value.int IntKind.i64 b),
                                            ((5 : Nat), Value.int IntKind.i64 (4 : Int))])
                                        (mkS [])))
                                    (N AX.normal
                                      (mkF (140 : Nat)
                                        [((0 : Nat), Value.int IntKind.i64 a), ((1 : Nat), Value.int IntKind.i64 b),
                                          ((5 : Nat), Value.int IntKind.i64 (4 : Int))])
                                      (mkS []))))
                                (br
                                  (decide
                                    (IntKind.wrap IntKind.i64
                                        (IntKind.wrap IntKind.i32
                                          (Int.tmod (IntKind.wrap IntKind.i64 (IntKind.wrap IntKind.i32 a))
                                            (IntKind.wrap IntKind.i64 (IntKind.wrap IntKind.i32 b)))) <
                                      (0 : Int)))
                                  (br (decide (IntKind.wrap IntKind.i64 (IntKind.wrap IntKind.i32 b) < (0 : Int)))
                                    (br
                                      (decide
                                        (IntKind.wrap IntKind.i64
                                            (IntKind.wrap IntKind.i32
                                              (Int.tmod (IntKind.wrap IntKind.i64 (IntKind.wrap IntKind.i32 a))
                                                (IntKind.wrap IntKind.i64 (IntKind.wrap IntKind.i32 b)))) ≤
                                          IntKind.wrap IntKind.i64 (IntKind.wrap IntKind.i32 b)))
                                      (N AX.ret (mkF (140 : Nat) []) (mkS []))
                                      (N AX.normal
                                        (mkF (140 : Nat)
                                          [((0 : Nat), Value.int IntKind.i64 a), ((1 : Nat), Value.int IntKind.i64 b),
                                            ((5 : Nat), Value.int IntKind.i64 (4 : Int))])
                                        (mkS [])))
                                    (N AX.normal
                                      (mkF (140 : Nat)
                                        [((0 : Nat), Value.int IntKind.i64 a), ((1 : Nat), Value.int IntKind.i64 b),
                                          ((5 : Nat), Value.int IntKind.i64 (4 : Int))])
                                      (mkS [])))
                                  (N AX.normal
                                    (mkF (140 : Nat)
                                      [((0 : Nat), Value.int IntKind.i64 a), ((1 : Nat), Value.int IntKind.i64 b),
                                        ((5 : Nat), Value.int IntKind.i64 (4 : Int))])
                                    (mkS []))))
                              (br
                                (decide
                                  (IntKind.wrap IntKind.i64
                                      (IntKind.wrap IntKind.i32
                                        (Int.tmod (IntKind.wrap IntKind.i64 (IntKind.wrap IntKind.i32 a))
                                          (IntKind.wrap IntKind.i64 (IntKind.wrap IntKind.i32 b)))) <
                                    (0 : Int)))
                                (br (decide (IntKind.wrap IntKind.i64 (IntKind.wrap IntKind.i32 b) < (0 : Int)))
                                  (br
                                    (decide
                                      (IntKind.wrap IntKind.i64
                                          (IntKind.wrap IntKind.i32
                                            (Int.tmod (IntKind.wrap IntKind.i64 (IntKind.wrap IntKind.i32 a))
                                              (IntKind.wrap IntKind.i64 (IntKind.wrap IntKind.i32 b)))) ≤
                                        IntKind.wrap IntKind.i64 (IntKind.wrap IntKind.i32 b)))
                                    (N AX.ret (mkF (140 : Nat) []) (mkS []))
                                    (N AX.normal
                                      (mkF (140 : Nat)
                                        [((0 : Nat), Value.int IntKind.i64 a), ((1 : Nat), Value.int IntKind.i64 b),
                                          ((5 : Nat), Value.int IntKind.i64 (4 : Int))])
                                      (mkS [])))
                                  (N AX.normal
                                    (mkF (140 : Nat)
                                      [((0 : Nat), Value.int IntKind.i64 a), ((1 : Nat), Value.int IntKind.i64 b),
                                        ((5 : Nat), Value.int IntKind.i64 (4 : Int))])
                                    (mkS [])))
                                (N AX.normal
                                  (mkF (140 : Nat)
                                    [((0 : Nat), Value.int IntKind.i64 a), ((1 : Nat), Value.int IntKind.i64 b),
                                      ((5 : Nat), Value.int IntKind.i64 (4 : Int))])
                                  (mkS [])))))
                          (br
                            (decide
                              (IntKind.wrap IntKind.i64
                                  (IntKind.wrap IntKind.i32
                                    (Int.tmod (IntKind.wrap IntKind.i64 (IntKind.wrap IntKind.i32 a))
                                      (IntKind.wrap IntKind.i64 (IntKind.wrap IntKind.i32 b)))) <
                                (0 : Int)))
                            (br (decide (IntKind.wrap IntKind.i64 (IntKind.wrap IntKind.i32 b) > (0 : Int)))
                              (br
                                (decide
                                  (IntKind.wrap IntKind.i64
                                      ((0 : Int) -
                                        IntKind.wrap IntKind.i64
                                          (IntKind.wrap IntKind.i32
                                            (Int.tmod (IntKind.wrap IntKind.i64 (IntKind.wrap IntKind.i32 a))
                                              (IntKind.wrap IntKind.i64 (IntKind.wrap IntKind.i32 b))))) ≥
                                    IntKind.wrap IntKind.i64 (IntKind.wrap IntKind.i32 b)))
                                (N AX.ret (mkF (140 : Nat) []) (mkS []))
                                (br
                                  (decide
                                    (IntKind.wrap IntKind.i64
                                        (IntKind.wrap IntKind.i32
                                          (Int.tmod (IntKind.wrap IntKind.i64 (IntKind.wrap IntKind.i32 a))
                                            (IntKind.wrap IntKind.i64 (IntKind.wrap IntKind.i32 b)))) <
                                      (0 : Int)))
                                  (br (decide (IntKind.wrap IntKind.i64 (IntKind.wrap IntKind.i32 b) < (0 : Int)))
                                    (br
                                      (decide
                                        (IntKind.wrap IntKind.i64
                                            (IntKind.wrap IntKind.i32
                                              (Int.tmod (IntKind.wrap IntKind.i64 (IntKind.wrap IntKind.i32 a))
                                                (IntKind.wrap IntKind.i64 (IntKind.wrap IntKind.i32 b)))) ≤
                                          IntKind.wrap IntKind.i64 (IntKind.wrap IntKind.i32 b)))
                                      (N AX.ret (mkF (140 : Nat) []) (mkS []))
                                      (N AX.normal
                                        (mkF (140 : Nat)
                                          [((0 : Nat), Value.int IntKind.i64 a), ((1 : Nat), Value.int IntKind.i64 b),
                                            ((5 : Nat), Value.int IntKind.i64 (4 : Int))])
                                        (mkS [])))
                                    (N AX.normal
                                      (mkF (140 : Nat)
                                        [((0 : Nat), Value.int IntKind.i64 a), ((1 : Nat), Value.int IntKind.i64 b),
                                          ((5 : Nat), Value.int IntKind.i64 (4 : Int))])
                                      (mkS [])))
                                  (N AX.normal
                                    (mkF (140 : Nat)
                                      [((0 : Nat), Value.int IntKind.i64 a), ((1 : Nat), Value.int IntKind.i64 b),
                                        ((5 : Nat), Value.int IntKind.i64 (4 : Int))])
                                    (mkS []))))
                              (br
                                (decide
                                  (IntKind.wrap IntKind.i64
                                      (IntKind.wrap IntKind.i32
                                        (Int.tmod (IntKind.wrap IntKind.i64 (IntKind.wrap IntKind.i32 a))
                                          (IntKind.wrap IntKind.i64 (IntKind.wrap IntKind.i32 b)))) <
                                    (0 : Int)))
                                (br (decide (IntKind.wrap IntKind.i64 (IntKind.wrap IntKind.i32 b) < (0 : Int)))
                                  (br
                                    (decide
                                      (IntKind.wrap IntKind.i64
                                          (IntKind.wrap IntKind.i32
                                            (Int.tmod (IntKind.wrap IntKind.i64 (IntKind.wrap IntKind.i32 a))
                                              (IntKind.wrap IntKind.i64 (IntKind.wrap IntKind.i32 b)))) ≤
                                        IntKind.wrap IntKind.i64 (IntKind.wrap IntKind.i32 b)))
                                    (N AX.ret (mkF (140 : Nat) []) (mkS []))
                                    (N AX.normal
                                      (mkF (140 : Nat)
                                        [((0 : Nat), Value.int IntKind.i64 a), ((1 : Nat), Value.int IntKind.i64 b),
                                          ((5 : Nat), Value.int IntKind.i64 (4 : Int))])
                                      (mkS [])))
                                  (N AX.normal
                                    (mkF (140 : Nat)
                                      [((0 : Nat), Value.int IntKind.i64 a), ((1 : Nat), Value.int IntKind.i64 b),
                                        ((5 : Nat), Value.int IntKind.i64 (4 : Int))])
                                    (mkS [])))
                                (N AX.normal
                                  (mkF (140 : Nat)
                                    [((0 : Nat), Value.int IntKind.i64 a), ((1 : Nat), Value.int IntKind.i64 b),
                                      ((5 : Nat), Value.int IntKind.i64 (4 : Int))])
                                  (mkS []))))
                            (br
                              (decide
                                (IntKind.wrap IntKind.i64
                                    (IntKind.wrap IntKind.i32
                                      (Int.tmod (IntKind.wrap IntKind.i64 (IntKind.wrap IntKind.i32 a))
                                        (IntKind.wrap IntKind.i64 (IntKind.wrap IntKind.i32 b)))) <
                                  (0 : Int)))
                              (br (decide (IntKind.wrap IntKind.i64 (IntKind.wrap IntKind.i32 b) < (0 : Int)))
                                (br
                                  (decide
                                    (IntKind.wrap IntKind.i64
                                        (IntKind.wrap IntKind.i32
                                          (Int.tmod (IntKind.wrap IntKind.i64 (IntKind.wrap IntKind.i32 a))
                                            (IntKind.wrap IntKind.i64 (IntKind.wrap IntKind.i32 b)))) ≤
                                      IntKind.wrap IntKind.i64 (IntKind.wrap IntKind.i32 b)))
                                  (N AX.ret (mkF (140 : Nat) []) (mkS []))
                                  (N AX.normal
                                    (mkF (140 : Nat)
                                      [((0 : Nat), Value.int IntKind.i64 a), ((1 : Nat), Value.int IntKind.i64 b),
                                        ((5 : Nat), Value.int IntKind.i64 (4 : Int))])
                                    (mkS [])))
                                (N AX.normal
                                  (mkF (140 : Nat)
                                    [((0 : Nat), Value.int IntKind.i64 a), ((1 : Nat), Value.int IntKind.i64 b),
                                      ((5 : Nat), Value.int IntKind.i64 (4 : Int))])
                                  (mkS [])))
                              (N AX.normal
                                (mkF (140 : Nat)
                                  [((0 : Nat), Value.int IntKind.i64 a), ((1 : Nat), Value.int IntKind.i64 b),
                                    ((5 : Nat), Value.int IntKind.i64 (4 : Int))])
                                (mkS [])))))
                        (br
                          (decide
                            (IntKind.wrap IntKind.i64
                                (IntKind.wrap IntKind.i32
                                  (Int.tmod (IntKind.wrap IntKind.i64 (IntKind.wrap IntKind.i32 a))
                                    (IntKind.wrap IntKind.i64 (IntKind.wrap IntKind.i32 b)))) <
                              (0 : Int)))
                          (br (decide (IntKind.wrap IntKind.i64 (IntKind.wrap IntKind.i32 b) > (0 : Int)))
                            (br
                              (decide
                                (IntKind.wrap IntKind.i64
                                    ((0 : Int) -
                                      IntKind.wrap IntKind.i64
                                        (IntKind.wrap IntKind.i32
                                          (Int.tmod (IntKind.wrap IntKind.i64 (IntKind.wrap IntKind.i32 a))
                                            (IntKind.wrap IntKind.i64 (IntKind.wrap IntKind.i32 b))))) ≥
                                  IntKind.wrap IntKind.i64 (IntKind.wrap IntKind.i32 b)))
                              (N AX.ret (mkF (140 : Nat) []) (mkS []))
                              (br
                                (decide
                                  (IntKind.wrap IntKind.i64
                                      (IntKind.wrap IntKind.i32
                                        (Int.tmod (IntKind.wrap IntKind.i64 (IntKind.wrap IntKind.i32 a))
                                          (IntKind.wrap IntKind.i64 (IntKind.wrap IntKind.i32 b)))) <
                                    (0 : Int)))
                                (br (decide (IntKind.wrap IntKind.i64 (IntKind.wrap IntKind.i32 b) < (0 : Int)))
                                  (br
                                    (decide
                                      (IntKind.wrap IntKind.i64
                                          (IntKind.wrap IntKind.i32
                                            (Int.tmod (IntKind.wrap IntKind.i64 (IntKind.wrap IntKind.i32 a))
                                              (IntKind.wrap IntKind.i64 (IntKind.wrap IntKind.i32 b)))) ≤
                                        IntKind.wrap IntKind.i64 (IntKind.wrap IntKind.i32 b)))
                                    (N AX.ret (mkF (140 : Nat) []) (mkS []))
                                    (N AX.normal
                                      (mkF (140 : Nat)
                                        [((0 : Nat), Value.int IntKind.i64 a), ((1 : Nat), Value.int IntKind.i64 b),
                                          ((5 : Nat), Value.int IntKind.i64 (4 : Int))])
                                      (mkS [])))
                                  (N AX.normal
                                    (mkF (140 : Nat)
                                      [((0 : Nat), Value.int IntKind.i64 a), ((1 : Nat), Value.int IntKind.i64 b),
                                        ((5 : Nat), Value.int IntKind.i64 (4 : Int))])
                                    (mkS [])))
                                (N AX.normal
                                  (mkF (140 : Nat)
                                    [((0 : Nat), Value.int IntKind.i64 a), ((1 : Nat), Value.int IntKind.i64 b),
                                      ((5 : Nat), Value.int IntKind.i64 (4 : Int))])
                                  (mkS []))))
                            (br
                              (decide
                                (IntKind.wrap IntKind.i64
                                    (IntKind.wrap IntKind.i32
                                      (Int.tmod (IntKind.wrap IntKind.i64 (IntKind.wrap IntKind.i32 a))
                                        (IntKind.wrap IntKind.i64 (IntKind.wrap IntKind.i32 b)))) <
                                  (0 : Int)))
                              (br (decide (IntKind.wrap IntKind.i64 (IntKind.wrap IntKind.i32 b) < (0 : Int)))
                                (br
                                  (decide
                                    (IntKind.wrap IntKind.i64
                                        (IntKind.wrap IntKind.i32
                                          (Int.tmod (IntKind.wrap IntKind.i64 (IntKind.wrap IntKind.i32 a))
                                            (IntKind.wrap IntKind.i64 (IntKind.wrap IntKind.i32 b)))) ≤
                                      IntKind.wrap IntKind.i64 (IntKind.wrap IntKind.i32 b)))
                                  (N AX.ret (mkF (140 : Nat) []) (mkS []))
                                  (N AX.normal
                                    (mkF (140 : Nat)
                                      [((0 : Nat), Value.int IntKind.i64 a), ((1 : Nat), Value.int IntKind.i64 b),
                                        ((5 : Nat), Value.int IntKind.i64 (4 : Int))])
                                    (mkS [])))
                                (N AX.normal
                                  (mkF (140 : Nat)
                                    [((0 : Nat), Value.int IntKind.i64 a), ((1 : Nat), Value.int IntKind.i64 b),
                                      ((5 : Nat), Value.int IntKind.i64 (4 : Int))])
                                  (mkS [])))
                              (N AX.normal
                                (mkF (140 : Nat)
                                  [((0 : Nat), Value.int IntKind.i64 a), ((1 : Nat), Value.int IntKind.i64 b),
                                    ((5 : Nat), Value.int IntKind.i64 (4 : Int))])
                                (mkS []))))
                          (br
                            (decide
                              (IntKind.wrap IntKind.i64
                                  (IntKind.wrap IntKind.i32
                                    (Int.tmod (IntKind.wrap IntKind.i64 (IntKind.wrap IntKind.i32 a))
                                      (IntKind.wrap IntKind.i64 (IntKind.wrap IntKind.i32 b)))) <
                                (0 : Int)))
                            (br (decide (IntKind.wrap IntKind.i64 (IntKind.wrap IntKind.i32 b) < (0 : Int)))
                              (br
                                (decide
                                  (IntKind.wrap IntKind.i64
                                      (IntKind.wrap IntKind.i32
                                        (Int.tmod (IntKind.wrap IntKind.i64 (IntKind.wrap IntKind.i32 a))
                                          (IntKind.wrap IntKind.i64 (IntKind.wrap IntKind.i32 b)))) ≤
                                    IntKind.wrap IntKind.i64 (IntKind.wrap IntKind.i32 b)))
                                (N AX.ret (mkF (140 : Nat) []) (mkS []))
                                (N AX.normal
                                  (mkF (140 : Nat)
                                    [((0 : Nat), Value.int IntKind.i64 a), ((1 : Nat), Value.int IntKind.i64 b),
                                      ((5 : Nat), Value.int IntKind.i64 (4 : Int))])
                                  (mkS [])))
                              (N AX.normal
                                (mkF (140 : Nat)
                                  [((0 : Nat), Value.int IntKind.i64 a), ((1 : Nat), Value.int IntKind.i64 b),
                                    ((5 : Nat), Value.int IntKind.i64 (4 : Int))])
                                (mkS [])))
                            (N AX.normal
                              (mkF (140 : Nat)
                                [((0 : Nat), Value.int IntKind.i64 a), ((1 : Nat), Value.int IntKind.i64 b),
                                  ((5 : Nat), Value.int IntKind.i64 (4 : Int))])
                              (mkS []))))))
                    (br
                      (decide
                        (IntKind.wrap IntKind.i64
                            (IntKind.wrap IntKind.i32
                              (Int.tmod (IntKind.wrap IntKind.i64 (IntKind.wrap IntKind.i32 a))
                                (IntKind.wrap IntKind.i64 (IntKind.wrap IntKind.i32 b)))) ≥
                          (0 : Int)))
                      (br (decide (IntKind.wrap IntKind.i64 (IntKind.wrap IntKind.i32 b) < (0 : Int)))
                        (br
                          (decide
                            (IntKind.wrap IntKind.i64
                                (IntKind.wrap IntKind.i32
                                  (Int.tmod (IntKind.wrap IntKind.i64 (IntKind.wrap IntKind.i32 a))
                                    (IntKind.wrap IntKind.i64 (IntKind.wrap IntKind.i32 b)))) ≥
                              IntKind.wrap IntKind.i64
                                ((0 : Int) - IntKind.wrap IntKind.i64 (IntKind.wrap IntKind.i32 b))))
                          (N AX.ret (mkF (140 : Nat) []) (mkS []))
                          (br
                            (decide
                              (IntKind.wrap IntKind.i64
                                  (IntKind.wrap IntKind.i32
                                    (Int.tmod (IntKind.wrap IntKind.i64 (IntKind.wrap IntKind.i32 a))
                                      (IntKind.wrap IntKind.i64 (IntKind.wrap IntKind.i32 b)))) <
                                (0 : Int)))
                            (br (decide (IntKind.wrap IntKind.i64 (IntKind.wrap IntKind.i32 b) > (0 : Int)))
                              (br
                                (decide
                                  (IntKind.wrap IntKind.i64
                                      ((0 : Int) -
                                        IntKind.wrap IntKind.i64
                                          (IntKind.wrap IntKind.i32
                                            (Int.tmod (IntKind.wrap IntKind.i64 (IntKind.wrap IntKind.i32 a))
                                              (IntKind.wrap IntKind.i64 (IntKind.wrap IntKind.i32 b))))) ≥
                                    IntKind.wrap IntKind.i64 (IntKind.wrap IntKind.i32 b)))
                                (N AX.ret (mkF (140 : Nat) []) (mkS []))
                                (br
                                  (decide
                                    (IntKind.wrap IntKind.i64
                                        (IntKind.wrap IntKind.i32
                                          (Int.tmod (IntKind.wrap IntKind.i64 (IntKind.wrap IntKind.i32 a))
                                            (IntKind.wrap IntKind.i64 (IntKind.wrap IntKind.i32 b)))) <
                                      (0 : Int)))
                                  (br (decide (IntKind.wrap IntKind.i64 (IntKind.wrap IntKind.i32 b) < (0 : Int)))
                                    (br
                                      (decide
                                        (IntKind.wrap IntKind.i64
                                            (IntKind.wrap IntKind.i32
                                              (Int.tmod (IntKind.wrap IntKind.i64 (IntKind.wrap IntKind.i32 a))
                                                (IntKind.wrap IntKind.i64 (IntKind.wrap IntKind.i32 b)))) ≤
                                          IntKind.wrap IntKind.i64 (IntKind.wrap IntKind.i32 b)))
                                      (N AX.ret (mkF (140 : Nat) []) (mkS []))
                                      (N AX.normal
                                        (mkF (140 : Nat)
                                          [((0 : Nat), Value.int IntKind.i64 a), ((1 : Nat), Value.int IntKind.i64 b),
                                            ((5 : Nat), Value.int IntKind.i64 (4 : Int))])
                                        (mkS [])))
                                    (N AX.normal
                                      (mkF (140 : Nat)
                                        [((0 : Nat), Value.int IntKind.i64 a), ((1 : Nat), Value.int IntKind.i64 b),
                                          ((5 : Nat), Value.int IntKind.i64 (4 : Int))])
                                      (mkS [])))
                                  (N AX.normal
                                    (mkF (140 : Nat)
                                      [((0 : Nat), Value.int IntKind.i64 a), ((1 : Nat), Value.int IntKind.i64 b),
                                        ((5 : Nat), Value.int IntKind.i64 (4 : Int))])
                                    (mkS []))))
                              (br
                                (decide
                                  (IntKind.wrap IntKind.i64
                                      (IntKind.wrap IntKind.i32
                                        (Int.tmod (IntKind.wrap IntKind.i64 (IntKind.wrap IntKind.i32 a))
                                          (IntKind.wrap IntKind.i64 (IntKind.wrap IntKind.i32 b)))) <
                                    (0 : Int)))
                                (br (decide (IntKind.wrap IntKind.i64 (IntKind.wrap IntKind.i32 b) < (0 : Int)))
                                  (br
                                    (decide
                                      (IntKind.wrap IntKind.i64
                                          (IntKind.wrap IntKind.i32
                                            (Int.tmod (IntKind.wrap IntKind.i64 (IntKind.wrap IntKind.i32 a))
                                              (IntKind.wrap IntKind.i64 (IntKind.wrap IntKind.i32 b)))) ≤
                                        IntKind.wrap IntKind.i64 (IntKind.wrap IntKind.i32 b)))
                                    (N AX.ret (mkF (140 : Nat) []) (mkS []))
                                    (N AX.normal
                                      (mkF (140 : Nat)
                                        [((0 : Nat), Value.int IntKind.i64 a), ((1 : Nat), Value.int IntKind.i64 b),
                                          ((5 : Nat), Value.int IntKind.i64 (4 : Int))])
                                      (mkS [])))
                                  (N AX.normal
                                    (mkF (140 : Nat)
                                      [((0 : Nat), Value.int IntKind.i64 a), ((1 : Nat), Value.int IntKind.i64 b),
                                        ((5 : Nat), Value.int IntKind.i64 (4 : Int))])
                                    (mkS [])))
                                (N AX.normal
                                  (mkF (140 : Nat)
                                    [((0 : Nat), Value.int IntKind.i64 a), ((1 : Nat), Value.int IntKind.i64 b),
                                      ((5 : Nat), Value.int IntKind.i64 (4 : Int))])
                                  (mkS []))))
                            (br
                              (decide
                                (IntKind.wrap IntKind.i64
                                    (IntKind.wrap IntKind.i32
                                      (Int.tmod (IntKind.wrap IntKind.i64 (IntKind.wrap IntKind.i32 a))
                                        (IntKind.wrap IntKind.i64 (IntKind.wrap IntKind.i32 b)))) <
                                  (0 : Int)))
                              (br (decide (IntKind.wrap IntKind.i64 (IntKind.wrap IntKind.i32 b) < (0 : Int)))
                                (br
                                  (decide
                                    (IntKind.wrap IntKind.i64
                                        (IntKind.wrap IntKind.i32
                                          (Int.tmod (IntKind.wrap IntKind.i64 (IntKind.wrap IntKind.i32 a))
                                            (IntKind.wrap IntKind.i64 (IntKind.wrap IntKind.i32 b)))) ≤
                                      IntKind.wrap IntKind.i64 (IntKind.wrap IntKind.i32 b)))
                                  (N AX.ret (mkF (140 : Nat) []) (mkS []))
                                  (N AX.normal
                                    (mkF (140 : Nat)
                                      [((0 : Nat), Value.int IntKind.i64 a), ((1 : Nat), Value.int IntKind.i64 b),
                                        ((5 : Nat), Value.int IntKind.i64 (4 : Int))])
                                    (mkS [])))
                                (N AX.normal
                                  (mkF (140 : Nat)
                                    [((0 : Nat), Value.int IntKind.i64 a), ((1 : Nat), Value.int IntKind.i64 b),
                                      ((5 : Nat), Value.int IntKind.i64 (4 : Int))])
                                  (mkS [])))
                              (N AX.normal
                                (mkF (140 : Nat)
                                  [((0 : Nat), Value.int IntKind.i64 a), ((1 : Nat), Value.int IntKind.i64 b),
                                    ((5 : Nat), Value.int IntKind.i64 (4 : Int))])
                                (mkS [])))))
                        (br
                          (decide
                            (IntKind.wrap IntKind.i64
                                (IntKind.wrap IntKind.i32
                                  (Int.tmod (IntKind.wrap IntKind.i64 (IntKind.wrap IntKind.i32 a))
                                    (IntKind.wrap IntKind.i64 (IntKind.wrap IntKind.i32 b)))) <
                              (0 : Int)))
                          (br (decide (IntKind.wrap IntKind.i64 (IntKind.wrap IntKind.i32 b) > (0 : Int)))
                            (br
                              (decide
                                (IntKind.wrap IntKind.i64
                                    ((0 : Int) -
                                      IntKind.wrap IntKind.i64
                                        (IntKind.wrap IntKind.i32
                                          (Int.tmod (IntKind.wrap IntKind.i64 (IntKind.wrap IntKind.i32 a))
                                            (IntKind.wrap IntKind.i64 (IntKind.wrap IntKind.i32 b))))) ≥
                                  IntKind.wrap IntKind.i64 (IntKind.wrap IntKind.i32 b)))
                              (N AX.ret (mkF (140 : Nat) []) (mkS []))
                              (br
                                (decide
                                  (IntKind.wrap IntKind.i64
                                      (IntKind.wrap IntKind.i32
                                        (Int.tmod (IntKind.wrap IntKind.i64 (IntKind.wrap IntKind.i32 a))
                                          (IntKind.wrap IntKind.i64 (IntKind.wrap IntKind.i32 b)))) <
                                    (0 : Int)))
                                (br (decide (IntKind.wrap IntKind.i64 (IntKind.wrap IntKind.i32 b) < (0 : Int)))
                                  (br
                                    (decide
                                      (IntKind.wrap IntKind.i64
                                          (IntKind.wrap IntKind.i32
                                            (Int.tmod (IntKind.wrap IntKind.i64 (IntKind.wrap IntKind.i32 a))
                                              (IntKind.wrap IntKind.i64 (IntKind.wrap IntKind.i32 b)))) ≤
                                        IntKind.wrap IntKind.i64 (IntKind.wrap IntKind.i32 b)))
                                    (N AX.ret (mkF (140 : Nat) []) (mkS []))
                                    (N AX.normal
                                      (mkF (140 : Nat)
                                        [((0 : Nat), Value.int IntKind.i64 a), ((1 : Nat), Value.int IntKind.i64 b),
                                          ((5 : Nat), Value.int IntKind.i64 (4 : Int))])
                                      (mkS [])))
                                  (N AX.normal
                                    (mkF (140 : Nat)
                                      [((0 : Nat), Value.int IntKind.i64 a), ((1 : Nat), Value.int IntKind.i64 b),
                                        ((5 : Nat), Value.int IntKind.i64 (4 : Int))])
                                    (mkS [])))
                                (N AX.normal
                                  (mkF (140 : Nat)
                                    [((0 : Nat), Value.int IntKind.i64 a), ((1 : Nat), Value.int IntKind.i64 b),
                                      ((5 : Nat), Value.int IntKind.i64 (4 : Int))])
                                  (mkS []))))
                            (br
                              (decide
                                (IntKind.wrap IntKind.i64
                                    (IntKind.wrap IntKind.i32
                                      (Int.tmod (IntKind.wrap IntKind.i64 (IntKind.wrap IntKind.i32 a))
                                        (IntKind.wrap IntKind.i64 (IntKind.wrap IntKind.i32 b)))) <
                                  (0 : Int)))
                              (br (decide (IntKind.wrap IntKind.i64 (IntKind.wrap IntKind.i32 b) < (0 : Int)))
                                (br
                                  (decide
                                    (IntKind.wrap IntKind.i64
                                        (IntKind.wrap IntKind.i32
                                          (Int.tmod (IntKind.wrap IntKind.i64 (IntKind.wrap IntKind.i32 a))
                                            (IntKind.wrap IntKind.i64 (IntKind.wrap IntKind.i32 b)))) ≤
                                      IntKind.wrap IntKind.i64 (IntKind.wrap IntKind.i32 b)))
                                  (N AX.ret (mkF (140 : Nat) []) (mkS []))
                                  (N AX.normal
                                    (mkF (140 : Nat)
                                      [((0 : Nat), Value.int IntKind.i64 a), ((1 : Nat), Value.int IntKind.i64 b),
                                        ((5 : Nat), Value.int IntKind.i64 (4 : Int))])
                                    (mkS [])))
                                (N AX.normal
                                  (mkF (140 : Nat)
                                    [((0 : Nat), Value.int IntKind.i64 a), ((1 : Nat), Value.int IntKind.i64 b),
                                      ((5 : Nat), Value.int IntKind.i64 (4 : Int))])
                                  (mkS [])))
                              (N AX.normal
                                (mkF (140 : Nat)
                                  [((0 : Nat), Value.int IntKind.i64 a), ((1 : Nat), Value.int IntKind.i64 b),
                                    ((5 : Nat), Value.int IntKind.i64 (4 : Int))])
                                (mkS []))))
                          (br
                            (decide
                              (IntKind.wrap IntKind.i64
                                  (IntKind.wrap IntKind.i32
                                    (Int.tmod (IntKind.wrap IntKind.i64 (IntKind.wrap IntKind.i32 a))
                                      (IntKind.wrap IntKind.i64 (IntKind.wrap IntKind.i32 b)))) <
                                (0 : Int)))
                            (br (decide (IntKind.wrap IntKind.i64 (IntKind.wrap IntKind.i32 b) < (0 : Int)))
                              (br
                                (decide
                                  (IntKind.wrap IntKind.i64
                                      (IntKind.wrap IntKind.i32
                                        (Int.tmod (IntKind.wrap IntKind.i64 (IntKind.wrap IntKind.i32 a))
                                          (IntKind.wrap IntKind.i64 (IntKind.wrap IntKind.i32 b)))) ≤
                                    IntKind.wrap IntKind.i64 (IntKind.wrap IntKind.i32 b)))
                                (N AX.ret (mkF (140 : Nat) []) (mkS []))
                                (N AX.normal
                                  (mkF (140 : Nat)
                                    [((0 : Nat), Value.int IntKind.i64 a), ((1 : Nat), Value.int IntKind.i64 b),
                                      ((5 : Nat), Value.int IntKind.i64 (4 : Int))])
                                  (mkS [])))
                              (N AX.normal
                                (mkF (140 : Nat)
                                  [((0 : Nat), Value.int IntKind.i64 a), ((1 : Nat), Value.int IntKind.i64 b),
                                    ((5 : Nat), Value.int IntKind.i64 (4 : Int))])
                                (mkS [])))
                            (N AX.normal
                              (mkF (140 : Nat)
                                [((0 : Nat), Value.int IntKind.i64 a), ((1 : Nat), Value.int IntKind.i64 b),
                                  ((5 : Nat), Value.int IntKind.i64 (4 : Int))])
                              (mkS [])))))
                      (br
                        (decide
                          (IntKind.wrap IntKind.i64
                              (IntKind.wrap IntKind.i32
                                (Int.tmod (IntKind.wrap IntKind.i64 (IntKind.wrap IntKind.i32 a))
                                  (IntKind.wrap IntKind.i64 (IntKind.wrap IntKind.i32 b)))) <
                            (0 : Int)))
                        (br (decide (IntKind.wrap IntKind.i64 (IntKind.wrap IntKind.i32 b) > (0 : Int)))
                          (br
                            (decide
                              (IntKind.wrap IntKind.i64
                                  ((0 : Int) -
                                    IntKind.wrap IntKind.i64
                                      (IntKind.wrap IntKind.i32
                                        (Int.tmod (IntKind.wrap IntKind.i64 (IntKind.wrap IntKind.i32 a))
                                          (IntKind.wrap IntKind.i64 (IntKind.wrap IntKind.i32 b))))) ≥
                                IntKind.wrap IntKind.i64 (IntKind.wrap IntKind.i32 b)))
                            (N AX.ret (mkF (140 : Nat) []) (mkS []))
                            (br
                              (decide
                                (IntKind.wrap IntKind.i64
                                    (IntKind.wrap IntKind.i32
                                      (Int.tmod (IntKind.wrap IntKind.i64 (IntKind.wrap IntKind.i32 a))
                                        (IntKind.wrap IntKind.i64 (IntKind.wrap IntKind.i32 b)))) <
                                  (0 : Int)))
                              (br (decide (IntKind.wrap IntKind.i64 (IntKind.wrap IntKind.i32 b) < (0 : Int)))
                                (br
                                  (decide
                                    (IntKind.wrap IntKind.i64
                                        (IntKind.wrap IntKind.i32
                                          (Int.tmod (IntKind.wrap IntKind.i64 (IntKind.wrap IntKind.i32 a))
                                            (IntKind.wrap IntKind.i64 (IntKind.wrap IntKind.i32 b)))) ≤
                                      IntKind.wrap IntKind.i64 (IntKind.wrap IntKind.i32 b)))
                                  (N AX.ret (mkF (140 : Nat) []) (mkS []))
                                  (N AX.normal
                                    (mkF (140 : Nat)
                                      [((0 : Nat), Value.int IntKind.i64 a), ((1 : Nat), Value.int IntKind.i64 b),
                                        ((5 : Nat), Value.int IntKind.i64 (4 : Int))])
                                    (mkS [])))
                                (N AX.normal
                                  (mkF (140 : Nat)
                                    [((0 : Nat), Value.int IntKind.i64 a), ((1 : Nat), Value.int IntKind.i64 b),
                                      ((5 : Nat), Value.int IntKind.i64 (4 : Int))])
                                  (mkS [])))
                              (N AX.normal
                                (mkF (140 : Nat)
                                  [((0 : Nat), Value.int IntKind.i64 a), ((1 : Nat), Value.int IntKind.i64 b),
                                    ((5 : Nat), Value.int IntKind.i64 (4 : Int))])
                                (mkS []))))
                          (br
                            (decide
                              (IntKind.wrap IntKind.i64
                                  (IntKind.wrap IntKind.i32
                                    (Int.tmod (IntKind.wrap IntKind.i64 (IntKind.wrap IntKind.i32 a))
                                      (IntKind.wrap IntKind.i64 (IntKind.wrap IntKind.i32 b)))) <
                                (0 : Int)))
                            (br (decide (IntKind.wrap IntKind.i64 (IntKind.wrap IntKind.i32 b) < (0 : Int)))
                              (br
                                (decide
                                  (IntKind.wrap IntKind.i64
                                      (IntKind.wrap IntKind.i32
                                        (Int.tmod (IntKind.wrap IntKind.i64 (IntKind.wrap IntKind.i32 a))
                                          (IntKind.wrap IntKind.i64 (IntKind.wrap IntKind.i32 b)))) ≤
                                    IntKind.wrap IntKind.i64 (IntKind.wrap IntKind.i32 b)))
                                (N AX.ret (mkF (140 : Nat) []) (mkS []))
                                (N AX.normal
                                  (mkF (140 : Nat)
                                    [((0 : Nat), Value.int IntKind.i64 a), ((1 : Nat), Value.int IntKind.i64 b),
                                      ((5 : Nat), Value.int IntKind.i64 (4 : Int))])
                                  (mkS [])))
                              (N AX.normal
                                (mkF (140 : Nat)
                                  [((0 : Nat), Value.int IntKind.i64 a), ((1 : Nat), Value.int IntKind.i64 b),
                                    ((5 : Nat), Value.int IntKind.i64 (4 : Int))])
                                (mkS [])))
                            (N AX.normal
                              (mkF (140 : Nat)
                                [((0 : Nat), Value.int IntKind.i64 a), ((1 : Nat), Value.int IntKind.i64 b),
                                  ((5 : Nat), Value.int IntKind.i64 (4 : Int))])
                              (mkS []))))
                        (br
                          (decide
                            (IntKind.wrap IntKind.i64
                                (IntKind.wrap IntKind.i32
                                  (Int.tmod (IntKind.wrap IntKind.i64 (IntKind.wrap IntKind.i32 a))
                                    (IntKind.wrap IntKind.i64 (IntKind.wrap IntKind.i32 b)))) <
                              (0 : Int)))
                          (br (decide (IntKind.wrap IntKind.i64 (IntKind.wrap IntKind.i32 b) < (0 : Int)))
                            (br
                              (decide
                                (IntKind.wrap IntKind.i64
                                    (IntKind.wrap IntKind.i32
                                      (Int.tmod (IntKind.wrap IntKind.i64 (IntKind.wrap IntKind.i32 a))
                                        (IntKind.wrap IntKind.i64 (IntKind.wrap IntKind.i32 b)))) ≤
                                  IntKind.wrap IntKind.i64 (IntKind.wrap IntKind.i32 b)))
                              (N AX.ret (mkF (140 : Nat) []) (mkS []))
                              (N AX.normal
                                (mkF (140 : Nat)
                                  [((0 : Nat), Value.int IntKind.i64 a), ((1 : Nat), Value.int IntKind.i64 b),
                                    ((5 : Nat), Value.int IntKind.i64 (4 : Int))])
                                (mkS [])))
                            (N AX.normal
                              (mkF (140 : Nat)
                                [((0 : Nat), Value.int IntKind.i64 a), ((1 : Nat), Value.int IntKind.i64 b),
                                  ((5 : Nat), Value.int IntKind.i64 (4 : Int))])
                              (mkS [])))
                          (N AX.normal
                            (mkF (140 : Nat)
                              [((0 : Nat), Value.int IntKind.i64 a), ((1 : Nat), Value.int IntKind.i64 b),
                                ((5 : Nat), Value.int IntKind.i64 (4 : Int))])
                            (mkS []))))))
                  (N AX.normal
                    (mkF (140 : Nat)
                      [((0 : Nat), Value.int IntKind.i64 a), ((1 : Nat), Value.int IntKind.i64 b),
                        ((5 : Nat), Value.int IntKind.i64 (4 : Int))])
                    (mkS []))))))))) := by kernel_rfl
end Go.Proofs.Ytaomflhkclljdaa.Ev
