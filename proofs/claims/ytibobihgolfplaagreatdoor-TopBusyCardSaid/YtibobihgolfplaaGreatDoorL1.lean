/-
  Rounds of TopBusy. (Printed by tools/busy.py.)
-/
import Derived.Test.YtibobihgolfplaaGreatDoorByE
import Derived.Test.YtibobihgolfplaaGreatDoorJM
set_option maxRecDepth 1000000
set_option linter.unusedVariables false
namespace Go.Proofs.YtibobihgolfplaaGreatDoor.Ev
open Go
theorem byf1_0(L:Nat)(y:Nat→Int)(o n N:Int)(r:Nat)(Nx:Kt):pieceO Tryz.prog toldK 1 bySl9 [] [] (.loop (loopOf Tryz.prog 4 8)) (byF8 1 0 1) (mkS (byS 1 (byRow L y) 0 o n N r dustE)) Nx=Nx (.exit 8) (byF9 1 0) (mkS (byE 1 (byRow L y) 0 o n N r dustE)):=by kernel_rfl
theorem byf1_1(L:Nat)(y:Nat→Int)(o n N:Int)(r:Nat)(Nx:Kt):pieceO Tryz.prog toldK 1 bySl9 [] [] (.loop (loopOf Tryz.prog 4 8)) (byF8 1 1 1) (mkS (byS 1 (byRow L y) 1 o n N r dustE)) Nx=Nx (.exit 8) (byF9 1 1) (mkS (byE 1 (byRow L y) 1 o n N r dustE)):=by kernel_rfl
theorem byf1_2(L:Nat)(y:Nat→Int)(o n N:Int)(r:Nat)(Nx:Kt):pieceO Tryz.prog toldK 1 bySl9 [] [] (.loop (loopOf Tryz.prog 4 8)) (byF8 1 2 1) (mkS (byS 1 (byRow L y) 2 o n N r dustE)) Nx=Nx (.exit 8) (byF9 1 2) (mkS (byE 1 (byRow L y) 2 o n N r dustE)):=by kernel_rfl
theorem byf1_3(L:Nat)(y:Nat→Int)(o n N:Int)(r:Nat)(Nx:Kt):pieceO Tryz.prog toldK 1 bySl9 [] [] (.loop (loopOf Tryz.prog 4 8)) (byF8 1 3 1) (mkS (byS 1 (byRow L y) 3 o n N r dustE)) Nx=Nx (.exit 8) (byF9 1 3) (mkS (byE 1 (byRow L y) 3 o n N r dustE)):=by kernel_rfl
theorem byf1_4(L:Nat)(y:Nat→Int)(o n N:Int)(r:Nat)(Nx:Kt):pieceO Tryz.prog toldK 1 bySl9 [] [] (.loop (loopOf Tryz.prog 4 8)) (byF8 1 4 1) (mkS (byS 1 (byRow L y) 4 o n N r dustE)) Nx=Nx (.exit 8) (byF9 1 4) (mkS (byE 1 (byRow L y) 4 o n N r dustE)):=by kernel_rfl
theorem byf1_5(L:Nat)(y:Nat→Int)(o n N:Int)(r:Nat)(Nx:Kt):pieceO Tryz.prog toldK 1 bySl9 [] [] (.loop (loopOf Tryz.prog 4 8)) (byF8 1 5 1) (mkS (byS 1 (byRow L y) 5 o n N r dustE)) Nx=Nx (.exit 8) (byF9 1 5) (mkS (byE 1 (byRow L y) 5 o n N r dustE)):=by kernel_rfl
theorem byf1_6(L:Nat)(y:Nat→Int)(o n N:Int)(r:Nat)(Nx:Kt):pieceO Tryz.prog toldK 1 bySl9 [] [] (.loop (loopOf Tryz.prog 4 8)) (byF8 1 6 1) (mkS (byS 1 (byRow L y) 6 o n N r dustE)) Nx=Nx (.exit 8) (byF9 1 6) (mkS (byE 1 (byRow L y) 6 o n N r dustE)):=by kernel_rfl
theorem byf1_7(L:Nat)(y:Nat→Int)(o n N:Int)(r:Nat)(Nx:Kt):pieceO Tryz.prog toldK 1 bySl9 [] [] (.loop (loopOf Tryz.prog 4 8)) (byF8 1 7 1) (mkS (byS 1 (byRow L y) 7 o n N r dustE)) Nx=Nx (.exit 8) (byF9 1 7) (mkS (byE 1 (byRow L y) 7 o n N r dustE)):=by kernel_rfl
theorem byf1_8(L:Nat)(y:Nat→Int)(o n N:Int)(r:Nat)(Nx:Kt):pieceO Tryz.prog toldK 1 bySl9 [] [] (.loop (loopOf Tryz.prog 4 8)) (byF8 1 8 1) (mkS (byS 1 (byRow L y) 8 o n N r dustE)) Nx=Nx (.exit 8) (byF9 1 8) (mkS (byE 1 (byRow L y) 8 o n N r dustE)):=by kernel_rfl
theorem byf1_9(L:Nat)(y:Nat→Int)(o n N:Int)(r:Nat)(Nx:Kt):pieceO Tryz.prog toldK 1 bySl9 [] [] (.loop (loopOf Tryz.prog 4 8)) (byF8 1 9 1) (mkS (byS 1 (byRow L y) 9 o n N r dustE)) Nx=Nx (.exit 8) (byF9 1 9) (mkS (byE 1 (byRow L y) 9 o n N r dustE)):=by kernel_rfl
theorem byf1_10(L:Nat)(y:Nat→Int)(o n N:Int)(r:Nat)(Nx:Kt):pieceO Tryz.prog toldK 1 bySl9 [] [] (.loop (loopOf Tryz.prog 4 8)) (byF8 1 10 1) (mkS (byS 1 (byRow L y) 10 o n N r dustE)) Nx=Nx (.exit 8) (byF9 1 10) (mkS (byE 1 (byRow L y) 10 o n N r dustE)):=by kernel_rfl
theorem byf1: ∀(i:Nat),i≤10→ ∀(L:Nat) (y:Nat→Int) (o n N:Int) (r:Nat) (Nx:Kt),pieceO Tryz.prog toldK 1 bySl9 [] [] (.loop (loopOf Tryz.prog 4 8)) (byF8 1 i 1) (mkS (byS 1 (byRow L y) i o n N r dustE)) Nx=Nx (.exit 8) (byF9 1 i) (mkS (byE 1 (byRow L y) i o n N r dustE))
 |0,_=>fun L y o n N r Nx=>byf1_0 L y o n N r Nx
 |1,_=>fun L y o n N r Nx=>byf1_1 L y o n N r Nx
 |2,_=>fun L y o n N r Nx=>byf1_2 L y o n N r Nx
 |3,_=>fun L y o n N r Nx=>byf1_3 L y o n N r Nx
 |4,_=>fun L y o n N r Nx=>byf1_4 L y o n N r Nx
 |5,_=>fun L y o n N r Nx=>byf1_5 L y o n N r Nx
 |6,_=>fun L y o n N r Nx=>byf1_6 L y o n N r Nx
 |7,_=>fun L y o n N r Nx=>byf1_7 L y o n N r Nx
 |8,_=>fun L y o n N r Nx=>byf1_8 L y o n N r Nx
 |9,_=>fun L y o n N r Nx=>byf1_9 L y o n N r Nx
 |10,_=>fun L y o n N r Nx=>byf1_10 L y o n N r Nx
 |i+11,h=>absurd h (by omega)
theorem byf2_0(L:Nat)(y:Nat→Int)(o n N:Int)(r:Nat)(Nx:Kt):pieceO Tryz.prog toldK 1 bySl9 [] [] (.loop (loopOf Tryz.prog 4 8)) (byF8 2 0 2) (mkS (byS 2 (byRow L y) 0 o n N r dustE)) Nx=Nx (.exit 8) (byF9 2 0) (mkS (byE 2 (byRow L y) 0 o n N r dustE)):=by kernel_rfl
theorem byf2_1(L:Nat)(y:Nat→Int)(o n N:Int)(r:Nat)(Nx:Kt):pieceO Tryz.prog toldK 1 bySl9 [] [] (.loop (loopOf Tryz.prog 4 8)) (byF8 2 1 2) (mkS (byS 2 (byRow L y) 1 o n N r dustE)) Nx=Nx (.exit 8) (byF9 2 1) (mkS (byE 2 (byRow L y) 1 o n N r dustE)):=by kernel_rfl
theorem byf2_2(L:Nat)(y:Nat→Int)(o n N:Int)(r:Nat)(Nx:Kt):pieceO Tryz.prog toldK 1 bySl9 [] [] (.loop (loopOf Tryz.prog 4 8)) (byF8 2 2 2) (mkS (byS 2 (byRow L y) 2 o n N r dustE)) Nx=Nx (.exit 8) (byF9 2 2) (mkS (byE 2 (byRow L y) 2 o n N r dustE)):=by kernel_rfl
theorem byf2_3(L:Nat)(y:Nat→Int)(o n N:Int)(r:Nat)(Nx:Kt):pieceO Tryz.prog toldK 1 bySl9 [] [] (.loop (loopOf Tryz.prog 4 8)) (byF8 2 3 2) (mkS (byS 2 (byRow L y) 3 o n N r dustE)) Nx=Nx (.exit 8) (byF9 2 3) (mkS (byE 2 (byRow L y) 3 o n N r dustE)):=by kernel_rfl
theorem byf2_4(L:Nat)(y:Nat→Int)(o n N:Int)(r:Nat)(Nx:Kt):pieceO Tryz.prog toldK 1 bySl9 [] [] (.loop (loopOf Tryz.prog 4 8)) (byF8 2 4 2) (mkS (byS 2 (byRow L y) 4 o n N r dustE)) Nx=Nx (.exit 8) (byF9 2 4) (mkS (byE 2 (byRow L y) 4 o n N r dustE)):=by kernel_rfl
theorem byf2_5(L:Nat)(y:Nat→Int)(o n N:Int)(r:Nat)(Nx:Kt):pieceO Tryz.prog toldK 1 bySl9 [] [] (.loop (loopOf Tryz.prog 4 8)) (byF8 2 5 2) (mkS (byS 2 (byRow L y) 5 o n N r dustE)) Nx=Nx (.exit 8) (byF9 2 5) (mkS (byE 2 (byRow L y) 5 o n N r dustE)):=by kernel_rfl
theorem byf2_6(L:Nat)(y:Nat→Int)(o n N:Int)(r:Nat)(Nx:Kt):pieceO Tryz.prog toldK 1 bySl9 [] [] (.loop (loopOf Tryz.prog 4 8)) (byF8 2 6 2) (mkS (byS 2 (byRow L y) 6 o n N r dustE)) Nx=Nx (.exit 8) (byF9 2 6) (mkS (byE 2 (byRow L y) 6 o n N r dustE)):=by kernel_rfl
theorem byf2_7(L:Nat)(y:Nat→Int)(o n N:Int)(r:Nat)(Nx:Kt):pieceO Tryz.prog toldK 1 bySl9 [] [] (.loop (loopOf Tryz.prog 4 8)) (byF8 2 7 2) (mkS (byS 2 (byRow L y) 7 o n N r dustE)) Nx=Nx (.exit 8) (byF9 2 7) (mkS (byE 2 (byRow L y) 7 o n N r dustE)):=by kernel_rfl
theorem byf2_8(L:Nat)(y:Nat→Int)(o n N:Int)(r:Nat)(Nx:Kt):pieceO Tryz.prog toldK 1 bySl9 [] [] (.loop (loopOf Tryz.prog 4 8)) (byF8 2 8 2) (mkS (byS 2 (byRow L y) 8 o n N r dustE)) Nx=Nx (.exit 8) (byF9 2 8) (mkS (byE 2 (byRow L y) 8 o n N r dustE)):=by kernel_rfl
theorem byf2_9(L:Nat)(y:Nat→Int)(o n N:Int)(r:Nat)(Nx:Kt):pieceO Tryz.prog toldK 1 bySl9 [] [] (.loop (loopOf Tryz.prog 4 8)) (byF8 2 9 2) (mkS (byS 2 (byRow L y) 9 o n N r dustE)) Nx=Nx (.exit 8) (byF9 2 9) (mkS (byE 2 (byRow L y) 9 o n N r dustE)):=by kernel_rfl
theorem byf2_10(L:Nat)(y:Nat→Int)(o n N:Int)(r:Nat)(Nx:Kt):pieceO Tryz.prog toldK 1 bySl9 [] [] (.loop (loopOf Tryz.prog 4 8)) (byF8 2 10 2) (mkS (byS 2 (byRow L y) 10 o n N r dustE)) Nx=Nx (.exit 8) (byF9 2 10) (mkS (byE 2 (byRow L y) 10 o n N r dustE)):=by kernel_rfl
theorem byf2: ∀(i:Nat),i≤10→ ∀(L:Nat) (y:Nat→Int) (o n N:Int) (r:Nat) (Nx:Kt),pieceO Tryz.prog toldK 1 bySl9 [] [] (.loop (loopOf Tryz.prog 4 8)) (byF8 2 i 2) (mkS (byS 2 (byRow L y) i o n N r dustE)) Nx=Nx (.exit 8) (byF9 2 i) (mkS (byE 2 (byRow L y) i o n N r dustE))
 |0,_=>fun L y o n N r Nx=>byf2_0 L y o n N r Nx
 |1,_=>fun L y o n N r Nx=>byf2_1 L y o n N r Nx
 |2,_=>fun L y o n N r Nx=>byf2_2 L y o n N r Nx
 |3,_=>fun L y o n N r Nx=>byf2_3 L y o n N r Nx
 |4,_=>fun L y o n N r Nx=>byf2_4 L y o n N r Nx
 |5,_=>fun L y o n N r Nx=>byf2_5 L y o n N r Nx
 |6,_=>fun L y o n N r Nx=>byf2_6 L y o n N r Nx
 |7,_=>fun L y o n N r Nx=>byf2_7 L y o n N r Nx
 |8,_=>fun L y o n N r Nx=>byf2_8 L y o n N r Nx
 |9,_=>fun L y o n N r Nx=>byf2_9 L y o n N r Nx
 |10,_=>fun L y o n N r Nx=>byf2_10 L y o n N r Nx
 |i+11,h=>absurd h (by omega)
theorem byf3_0(L:Nat)(y:Nat→Int)(o n N:Int)(r:Nat)(Nx:Kt):pieceO Tryz.prog toldK 1 bySl9 [] [] (.loop (loopOf Tryz.prog 4 8)) (byF8 3 0 3) (mkS (byS 3 (byRow L y) 0 o n N r dustE)) Nx=Nx (.exit 8) (byF9 3 0) (mkS (byE 3 (byRow L y) 0 o n N r dustE)):=by kernel_rfl
theorem byf3_1(L:Nat)(y:Nat→Int)(o n N:Int)(r:Nat)(Nx:Kt):pieceO Tryz.prog toldK 1 bySl9 [] [] (.loop (loopOf Tryz.prog 4 8)) (byF8 3 1 3) (mkS (byS 3 (byRow L y) 1 o n N r dustE)) Nx=Nx (.exit 8) (byF9 3 1) (mkS (byE 3 (byRow L y) 1 o n N r dustE)):=by kernel_rfl
theorem byf3_2(L:Nat)(y:Nat→Int)(o n N:Int)(r:Nat)(Nx:Kt):pieceO Tryz.prog toldK 1 bySl9 [] [] (.loop (loopOf Tryz.prog 4 8)) (byF8 3 2 3) (mkS (byS 3 (byRow L y) 2 o n N r dustE)) Nx=Nx (.exit 8) (byF9 3 2) (mkS (byE 3 (byRow L y) 2 o n N r dustE)):=by kernel_rfl
theorem byf3_3(L:Nat)(y:Nat→Int)(o n N:Int)(r:Nat)(Nx:Kt):pieceO Tryz.prog toldK 1 bySl9 [] [] (.loop (loopOf Tryz.prog 4 8)) (byF8 3 3 3) (mkS (byS 3 (byRow L y) 3 o n N r dustE)) Nx=Nx (.exit 8) (byF9 3 3) (mkS (byE 3 (byRow L y) 3 o n N r dustE)):=by kernel_rfl
theorem byf3_4(L:Nat)(y:Nat→Int)(o n N:Int)(r:Nat)(Nx:Kt):pieceO Tryz.prog toldK 1 bySl9 [] [] (.loop (loopOf Tryz.prog 4 8)) (byF8 3 4 3) (mkS (byS 3 (byRow L y) 4 o n N r dustE)) Nx=Nx (.exit 8) (byF9 3 4) (mkS (byE 3 (byRow L y) 4 o n N r dustE)):=by kernel_rfl
theorem byf3_5(L:Nat)(y:Nat→Int)(o n N:Int)(r:Nat)(Nx:Kt):pieceO Tryz.prog toldK 1 bySl9 [] [] (.loop (loopOf Tryz.prog 4 8)) (byF8 3 5 3) (mkS (byS 3 (byRow L y) 5 o n N r dustE)) Nx=Nx (.exit 8) (byF9 3 5) (mkS (byE 3 (byRow L y) 5 o n N r dustE)):=by kernel_rfl
theorem byf3_6(L:Nat)(y:Nat→Int)(o n N:Int)(r:Nat)(Nx:Kt):pieceO Tryz.prog toldK 1 bySl9 [] [] (.loop (loopOf Tryz.prog 4 8)) (byF8 3 6 3) (mkS (byS 3 (byRow L y) 6 o n N r dustE)) Nx=Nx (.exit 8) (byF9 3 6) (mkS (byE 3 (byRow L y) 6 o n N r dustE)):=by kernel_rfl
theorem byf3_7(L:Nat)(y:Nat→Int)(o n N:Int)(r:Nat)(Nx:Kt):pieceO Tryz.prog toldK 1 bySl9 [] [] (.loop (loopOf Tryz.prog 4 8)) (byF8 3 7 3) (mkS (byS 3 (byRow L y) 7 o n N r dustE)) Nx=Nx (.exit 8) (byF9 3 7) (mkS (byE 3 (byRow L y) 7 o n N r dustE)):=by kernel_rfl
theorem byf3_8(L:Nat)(y:Nat→Int)(o n N:Int)(r:Nat)(Nx:Kt):pieceO Tryz.prog toldK 1 bySl9 [] [] (.loop (loopOf Tryz.prog 4 8)) (byF8 3 8 3) (mkS (byS 3 (byRow L y) 8 o n N r dustE)) Nx=Nx (.exit 8) (byF9 3 8) (mkS (byE 3 (byRow L y) 8 o n N r dustE)):=by kernel_rfl
theorem byf3_9(L:Nat)(y:Nat→Int)(o n N:Int)(r:Nat)(Nx:Kt):pieceO Tryz.prog toldK 1 bySl9 [] [] (.loop (loopOf Tryz.prog 4 8)) (byF8 3 9 3) (mkS (byS 3 (byRow L y) 9 o n N r dustE)) Nx=Nx (.exit 8) (byF9 3 9) (mkS (byE 3 (byRow L y) 9 o n N r dustE)):=by kernel_rfl
theorem byf3_10(L:Nat)(y:Nat→Int)(o n N:Int)(r:Nat)(Nx:Kt):pieceO Tryz.prog toldK 1 bySl9 [] [] (.loop (loopOf Tryz.prog 4 8)) (byF8 3 10 3) (mkS (byS 3 (byRow L y) 10 o n N r dustE)) Nx=Nx (.exit 8) (byF9 3 10) (mkS (byE 3 (byRow L y) 10 o n N r dustE)):=by kernel_rfl
theorem byf3: ∀(i:Nat),i≤10→ ∀(L:Nat) (y:Nat→Int) (o n N:Int) (r:Nat) (Nx:Kt),pieceO Tryz.prog toldK 1 bySl9 [] [] (.loop (loopOf Tryz.prog 4 8)) (byF8 3 i 3) (mkS (byS 3 (byRow L y) i o n N r dustE)) Nx=Nx (.exit 8) (byF9 3 i) (mkS (byE 3 (byRow L y) i o n N r dustE))
 |0,_=>fun L y o n N r Nx=>byf3_0 L y o n N r Nx
 |1,_=>fun L y o n N r Nx=>byf3_1 L y o n N r Nx
 |2,_=>fun L y o n N r Nx=>byf3_2 L y o n N r Nx
 |3,_=>fun L y o n N r Nx=>byf3_3 L y o n N r Nx
 |4,_=>fun L y o n N r Nx=>byf3_4 L y o n N r Nx
 |5,_=>fun L y o n N r Nx=>byf3_5 L y o n N r Nx
 |6,_=>fun L y o n N r Nx=>byf3_6 L y o n N r Nx
 |7,_=>fun L y o n N r Nx=>byf3_7 L y o n N r Nx
 |8,_=>fun L y o n N r Nx=>byf3_8 L y o n N r Nx
 |9,_=>fun L y o n N r Nx=>byf3_9 L y o n N r Nx
 |10,_=>fun L y o n N r Nx=>byf3_10 L y o n N r Nx
 |i+11,h=>absurd h (by omega)
theorem byf4_0(L:Nat)(y:Nat→Int)(o n N:Int)(r:Nat)(Nx:Kt):pieceO Tryz.prog toldK 1 bySl9 [] [] (.loop (loopOf Tryz.prog 4 8)) (byF8 4 0 4) (mkS (byS 4 (byRow L y) 0 o n N r dustE)) Nx=Nx (.exit 8) (byF9 4 0) (mkS (byE 4 (byRow L y) 0 o n N r dustE)):=by kernel_rfl
theorem byf4_1(L:Nat)(y:Nat→Int)(o n N:Int)(r:Nat)(Nx:Kt):pieceO Tryz.prog toldK 1 bySl9 [] [] (.loop (loopOf Tryz.prog 4 8)) (byF8 4 1 4) (mkS (byS 4 (byRow L y) 1 o n N r dustE)) Nx=Nx (.exit 8) (byF9 4 1) (mkS (byE 4 (byRow L y) 1 o n N r dustE)):=by kernel_rfl
theorem byf4_2(L:Nat)(y:Nat→Int)(o n N:Int)(r:Nat)(Nx:Kt):pieceO Tryz.prog toldK 1 bySl9 [] [] (.loop (loopOf Tryz.prog 4 8)) (byF8 4 2 4) (mkS (byS 4 (byRow L y) 2 o n N r dustE)) Nx=Nx (.exit 8) (byF9 4 2) (mkS (byE 4 (byRow L y) 2 o n N r dustE)):=by kernel_rfl
theorem byf4_3(L:Nat)(y:Nat→Int)(o n N:Int)(r:Nat)(Nx:Kt):pieceO Tryz.prog toldK 1 bySl9 [] [] (.loop (loopOf Tryz.prog 4 8)) (byF8 4 3 4) (mkS (byS 4 (byRow L y) 3 o n N r dustE)) Nx=Nx (.exit 8) (byF9 4 3) (mkS (byE 4 (byRow L y) 3 o n N r dustE)):=by kernel_rfl
theorem byf4_4(L:Nat)(y:Nat→Int)(o n N:Int)(r:Nat)(Nx:Kt):pieceO Tryz.prog toldK 1 bySl9 [] [] (.loop (loopOf Tryz.prog 4 8)) (byF8 4 4 4) (mkS (byS 4 (byRow L y) 4 o n N r dustE)) Nx=Nx (.exit 8) (byF9 4 4) (mkS (byE 4 (byRow L y) 4 o n N r dustE)):=by kernel_rfl
theorem byf4_5(L:Nat)(y:Nat→Int)(o n N:Int)(r:Nat)(Nx:Kt):pieceO Tryz.prog toldK 1 bySl9 [] [] (.loop (loopOf Tryz.prog 4 8)) (byF8 4 5 4) (mkS (byS 4 (byRow L y) 5 o n N r dustE)) Nx=Nx (.exit 8) (byF9 4 5) (mkS (byE 4 (byRow L y) 5 o n N r dustE)):=by kernel_rfl
theorem byf4_6(L:Nat)(y:Nat→Int)(o n N:Int)(r:Nat)(Nx:Kt):pieceO Tryz.prog toldK 1 bySl9 [] [] (.loop (loopOf Tryz.prog 4 8)) (byF8 4 6 4) (mkS (byS 4 (byRow L y) 6 o n N r dustE)) Nx=Nx (.exit 8) (byF9 4 6) (mkS (byE 4 (byRow L y) 6 o n N r dustE)):=by kernel_rfl
theorem byf4_7(L:Nat)(y:Nat→Int)(o n N:Int)(r:Nat)(Nx:Kt):pieceO Tryz.prog toldK 1 bySl9 [] [] (.loop (loopOf Tryz.prog 4 8)) (byF8 4 7 4) (mkS (byS 4 (byRow L y) 7 o n N r dustE)) Nx=Nx (.exit 8) (byF9 4 7) (mkS (byE 4 (byRow L y) 7 o n N r dustE)):=by kernel_rfl
theorem byf4_8(L:Nat)(y:Nat→Int)(o n N:Int)(r:Nat)(Nx:Kt):pieceO Tryz.prog toldK 1 bySl9 [] [] (.loop (loopOf Tryz.prog 4 8)) (byF8 4 8 4) (mkS (byS 4 (byRow L y) 8 o n N r dustE)) Nx=Nx (.exit 8) (byF9 4 8) (mkS (byE 4 (byRow L y) 8 o n N r dustE)):=by kernel_rfl
theorem byf4_9(L:Nat)(y:Nat→Int)(o n N:Int)(r:Nat)(Nx:Kt):pieceO Tryz.prog toldK 1 bySl9 [] [] (.loop (loopOf Tryz.prog 4 8)) (byF8 4 9 4) (mkS (byS 4 (byRow L y) 9 o n N r dustE)) Nx=Nx (.exit 8) (byF9 4 9) (mkS (byE 4 (byRow L y) 9 o n N r dustE)):=by kernel_rfl
theorem byf4_10(L:Nat)(y:Nat→Int)(o n N:Int)(r:Nat)(Nx:Kt):pieceO Tryz.prog toldK 1 bySl9 [] [] (.loop (loopOf Tryz.prog 4 8)) (byF8 4 10 4) (mkS (byS 4 (byRow L y) 10 o n N r dustE)) Nx=Nx (.exit 8) (byF9 4 10) (mkS (byE 4 (byRow L y) 10 o n N r dustE)):=by kernel_rfl
theorem byf4: ∀(i:Nat),i≤10→ ∀(L:Nat) (y:Nat→Int) (o n N:Int) (r:Nat) (Nx:Kt),pieceO Tryz.prog toldK 1 bySl9 [] [] (.loop (loopOf Tryz.prog 4 8)) (byF8 4 i 4) (mkS (byS 4 (byRow L y) i o n N r dustE)) Nx=Nx (.exit 8) (byF9 4 i) (mkS (byE 4 (byRow L y) i o n N r dustE))
 |0,_=>fun L y o n N r Nx=>byf4_0 L y o n N r Nx
 |1,_=>fun L y o n N r Nx=>byf4_1 L y o n N r Nx
 |2,_=>fun L y o n N r Nx=>byf4_2 L y o n N r Nx
 |3,_=>fun L y o n N r Nx=>byf4_3 L y o n N r Nx
 |4,_=>fun L y o n N r Nx=>byf4_4 L y o n N r Nx
 |5,_=>fun L y o n N r Nx=>byf4_5 L y o n N r Nx
 |6,_=>fun L y o n N r Nx=>byf4_6 L y o n N r Nx
 |7,_=>fun L y o n N r Nx=>byf4_7 L y o n N r Nx
 |8,_=>fun L y o n N r Nx=>byf4_8 L y o n N r Nx
 |9,_=>fun L y o n N r Nx=>byf4_9 L y o n N r Nx
 |10,_=>fun L y o n N r Nx=>byf4_10 L y o n N r Nx
 |i+11,h=>absurd h (by omega)
theorem byf5_0(L:Nat)(y:Nat→Int)(o n N:Int)(r:Nat)(Nx:Kt):pieceO Tryz.prog toldK 1 bySl9 [] [] (.loop (loopOf Tryz.prog 4 8)) (byF8 5 0 5) (mkS (byS 5 (byRow L y) 0 o n N r dustE)) Nx=Nx (.exit 8) (byF9 5 0) (mkS (byE 5 (byRow L y) 0 o n N r dustE)):=by kernel_rfl
theorem byf5_1(L:Nat)(y:Nat→Int)(o n N:Int)(r:Nat)(Nx:Kt):pieceO Tryz.prog toldK 1 bySl9 [] [] (.loop (loopOf Tryz.prog 4 8)) (byF8 5 1 5) (mkS (byS 5 (byRow L y) 1 o n N r dustE)) Nx=Nx (.exit 8) (byF9 5 1) (mkS (byE 5 (byRow L y) 1 o n N r dustE)):=by kernel_rfl
theorem byf5_2(L:Nat)(y:Nat→Int)(o n N:Int)(r:Nat)(Nx:Kt):pieceO Tryz.prog toldK 1 bySl9 [] [] (.loop (loopOf Tryz.prog 4 8)) (byF8 5 2 5) (mkS (byS 5 (byRow L y) 2 o n N r dustE)) Nx=Nx (.exit 8) (byF9 5 2) (mkS (byE 5 (byRow L y) 2 o n N r dustE)):=by kernel_rfl
theorem byf5_3(L:Nat)(y:Nat→Int)(o n N:Int)(r:Nat)(Nx:Kt):pieceO Tryz.prog toldK 1 bySl9 [] [] (.loop (loopOf Tryz.prog 4 8)) (byF8 5 3 5) (mkS (byS 5 (byRow L y) 3 o n N r dustE)) Nx=Nx (.exit 8) (byF9 5 3) (mkS (byE 5 (byRow L y) 3 o n N r dustE)):=by kernel_rfl
theorem byf5_4(L:Nat)(y:Nat→Int)(o n N:Int)(r:Nat)(Nx:Kt):pieceO Tryz.prog toldK 1 bySl9 [] [] (.loop (loopOf Tryz.prog 4 8)) (byF8 5 4 5) (mkS (byS 5 (byRow L y) 4 o n N r dustE)) Nx=Nx (.exit 8) (byF9 5 4) (mkS (byE 5 (byRow L y) 4 o n N r dustE)):=by kernel_rfl
theorem byf5_5(L:Nat)(y:Nat→Int)(o n N:Int)(r:Nat)(Nx:Kt):pieceO Tryz.prog toldK 1 bySl9 [] [] (.loop (loopOf Tryz.prog 4 8)) (byF8 5 5 5) (mkS (byS 5 (byRow L y) 5 o n N r dustE)) Nx=Nx (.exit 8) (byF9 5 5) (mkS (byE 5 (byRow L y) 5 o n N r dustE)):=by kernel_rfl
theorem byf5_6(L:Nat)(y:Nat→Int)(o n N:Int)(r:Nat)(Nx:Kt):pieceO Tryz.prog toldK 1 bySl9 [] [] (.loop (loopOf Tryz.prog 4 8)) (byF8 5 6 5) (mkS (byS 5 (byRow L y) 6 o n N r dustE)) Nx=Nx (.exit 8) (byF9 5 6) (mkS (byE 5 (byRow L y) 6 o n N r dustE)):=by kernel_rfl
theorem byf5_7(L:Nat)(y:Nat→Int)(o n N:Int)(r:Nat)(Nx:Kt):pieceO Tryz.prog toldK 1 bySl9 [] [] (.loop (loopOf Tryz.prog 4 8)) (byF8 5 7 5) (mkS (byS 5 (byRow L y) 7 o n N r dustE)) Nx=Nx (.exit 8) (byF9 5 7) (mkS (byE 5 (byRow L y) 7 o n N r dustE)):=by kernel_rfl
theorem byf5_8(L:Nat)(y:Nat→Int)(o n N:Int)(r:Nat)(Nx:Kt):pieceO Tryz.prog toldK 1 bySl9 [] [] (.loop (loopOf Tryz.prog 4 8)) (byF8 5 8 5) (mkS (byS 5 (byRow L y) 8 o n N r dustE)) Nx=Nx (.exit 8) (byF9 5 8) (mkS (byE 5 (byRow L y) 8 o n N r dustE)):=by kernel_rfl
theorem byf5_9(L:Nat)(y:Nat→Int)(o n N:Int)(r:Nat)(Nx:Kt):pieceO Tryz.prog toldK 1 bySl9 [] [] (.loop (loopOf Tryz.prog 4 8)) (byF8 5 9 5) (mkS (byS 5 (byRow L y) 9 o n N r dustE)) Nx=Nx (.exit 8) (byF9 5 9) (mkS (byE 5 (byRow L y) 9 o n N r dustE)):=by kernel_rfl
theorem byf5_10(L:Nat)(y:Nat→Int)(o n N:Int)(r:Nat)(Nx:Kt):pieceO Tryz.prog toldK 1 bySl9 [] [] (.loop (loopOf Tryz.prog 4 8)) (byF8 5 10 5) (mkS (byS 5 (byRow L y) 10 o n N r dustE)) Nx=Nx (.exit 8) (byF9 5 10) (mkS (byE 5 (byRow L y) 10 o n N r dustE)):=by kernel_rfl
theorem byf5: ∀(i:Nat),i≤10→ ∀(L:Nat) (y:Nat→Int) (o n N:Int) (r:Nat) (Nx:Kt),pieceO Tryz.prog toldK 1 bySl9 [] [] (.loop (loopOf Tryz.prog 4 8)) (byF8 5 i 5) (mkS (byS 5 (byRow L y) i o n N r dustE)) Nx=Nx (.exit 8) (byF9 5 i) (mkS (byE 5 (byRow L y) i o n N r dustE))
 |0,_=>fun L y o n N r Nx=>byf5_0 L y o n N r Nx
 |1,_=>fun L y o n N r Nx=>byf5_1 L y o n N r Nx
 |2,_=>fun L y o n N r Nx=>byf5_2 L y o n N r Nx
 |3,_=>fun L y o n N r Nx=>byf5_3 L y o n N r Nx
 |4,_=>fun L y o n N r Nx=>byf5_4 L y o n N r Nx
 |5,_=>fun L y o n N r Nx=>byf5_5 L y o n N r Nx
 |6,_=>fun L y o n N r Nx=>byf5_6 L y o n N r Nx
 |7,_=>fun L y o n N r Nx=>byf5_7 L y o n N r Nx
 |8,_=>fun L y o n N r Nx=>byf5_8 L y o n N r Nx
 |9,_=>fun L y o n N r Nx=>byf5_9 L y o n N r Nx
 |10,_=>fun L y o n N r Nx=>byf5_10 L y o n N r Nx
 |i+11,h=>absurd h (by omega)
end Go.Proofs.YtibobihgolfplaaGreatDoor.Ev
