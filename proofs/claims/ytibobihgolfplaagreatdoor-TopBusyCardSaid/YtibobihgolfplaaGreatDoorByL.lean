/-
  TopBusy's loop, round by round. (Printed by tools/busy.py.)
-/
import Derived.Test.YtibobihgolfplaaGreatDoorGh
import Derived.Test.YtibobihgolfplaaGreatDoorK1
import Derived.Test.YtibobihgolfplaaGreatDoorK2
import Derived.Test.YtibobihgolfplaaGreatDoorK3
import Derived.Test.YtibobihgolfplaaGreatDoorK4
import Derived.Test.YtibobihgolfplaaGreatDoorK5
import Derived.Test.YtibobihgolfplaaGreatDoorK6
set_option linter.unusedVariables false
set_option maxRecDepth 1000000
namespace Go.Proofs.YtibobihgolfplaaGreatDoor.Ev
open Go Go.RowKit
def bySlice(L c:Nat):Value:= .slice (some ⟨0,0,some 0⟩) L c
def ByRnd(m i g:Nat):Prop:= ∀(x:Int) (c L:Nat) (y:Nat→Int) (o n N:Int) (r:Nat),∃(N0 o' n' N':Int) (r':Nat),∀Nx:Kt,pieceO Tryz.prog toldK 1 bySl byT (byW m g) (loopOf Tryz.prog 4 0) (byFr m x (bySlice L c) i) (mkS (byS m (byRow L y) i o n N r dustE)) Nx=
 need (decide (Int.ofNat i<Int.ofNat L)) (ndA x N0 m 0 (ndG y i L (g+1) 0 (ndL N' 6 (Nx .normal (byFr m x (bySlice L c) (i+1)) (mkS (byS m (byRow L y) (i+1) o' n' N' r' (dstE (2*m) (1+2*i*m) dustE)))))))
def ByEx(m i:Nat):Prop:= ∀(x:Int) (c L:Nat) (y:Nat→Int) (o n N:Int) (r:Nat) (Nx:Kt),pieceO Tryz.prog toldK 1 bySl byT [false] (loopOf Tryz.prog 4 0) (byFr m x (bySlice L c) i) (mkS (byS m (byRow L y) i o n N r dustE)) Nx=
 need (!(decide (Int.ofNat i<Int.ofNat L))) (Nx (.exit 0) (byFr m x (bySlice L c) i) (mkS (byS m (byRow L y) i o n N r dustE)))
theorem byRnd1: ∀i g:Nat,i≤9→g≤1→ByRnd 1 i g
 |0,0,_,_=>fun x c L y o n N r=>⟨_,_,_,_,_,fun Nx=>byr1_0_0 x c L y o n N r Nx⟩
 |0,1,_,_=>fun x c L y o n N r=>⟨_,_,_,_,_,fun Nx=>byr1_0_1 x c L y o n N r Nx⟩
 |1,0,_,_=>fun x c L y o n N r=>⟨_,_,_,_,_,fun Nx=>byr1_1_0 x c L y o n N r Nx⟩
 |1,1,_,_=>fun x c L y o n N r=>⟨_,_,_,_,_,fun Nx=>byr1_1_1 x c L y o n N r Nx⟩
 |2,0,_,_=>fun x c L y o n N r=>⟨_,_,_,_,_,fun Nx=>byr1_2_0 x c L y o n N r Nx⟩
 |2,1,_,_=>fun x c L y o n N r=>⟨_,_,_,_,_,fun Nx=>byr1_2_1 x c L y o n N r Nx⟩
 |3,0,_,_=>fun x c L y o n N r=>⟨_,_,_,_,_,fun Nx=>byr1_3_0 x c L y o n N r Nx⟩
 |3,1,_,_=>fun x c L y o n N r=>⟨_,_,_,_,_,fun Nx=>byr1_3_1 x c L y o n N r Nx⟩
 |4,0,_,_=>fun x c L y o n N r=>⟨_,_,_,_,_,fun Nx=>byr1_4_0 x c L y o n N r Nx⟩
 |4,1,_,_=>fun x c L y o n N r=>⟨_,_,_,_,_,fun Nx=>byr1_4_1 x c L y o n N r Nx⟩
 |5,0,_,_=>fun x c L y o n N r=>⟨_,_,_,_,_,fun Nx=>byr1_5_0 x c L y o n N r Nx⟩
 |5,1,_,_=>fun x c L y o n N r=>⟨_,_,_,_,_,fun Nx=>byr1_5_1 x c L y o n N r Nx⟩
 |6,0,_,_=>fun x c L y o n N r=>⟨_,_,_,_,_,fun Nx=>byr1_6_0 x c L y o n N r Nx⟩
 |6,1,_,_=>fun x c L y o n N r=>⟨_,_,_,_,_,fun Nx=>byr1_6_1 x c L y o n N r Nx⟩
 |7,0,_,_=>fun x c L y o n N r=>⟨_,_,_,_,_,fun Nx=>byr1_7_0 x c L y o n N r Nx⟩
 |7,1,_,_=>fun x c L y o n N r=>⟨_,_,_,_,_,fun Nx=>byr1_7_1 x c L y o n N r Nx⟩
 |8,0,_,_=>fun x c L y o n N r=>⟨_,_,_,_,_,fun Nx=>byr1_8_0 x c L y o n N r Nx⟩
 |8,1,_,_=>fun x c L y o n N r=>⟨_,_,_,_,_,fun Nx=>byr1_8_1 x c L y o n N r Nx⟩
 |9,0,_,_=>fun x c L y o n N r=>⟨_,_,_,_,_,fun Nx=>byr1_9_0 x c L y o n N r Nx⟩
 |9,1,_,_=>fun x c L y o n N r=>⟨_,_,_,_,_,fun Nx=>byr1_9_1 x c L y o n N r Nx⟩
 |i+10,_,h,_=>absurd h (by omega)
 |_,g+2,_,h=>absurd h (by omega)
theorem byEx1: ∀i:Nat,i≤10→ByEx 1 i
 |0,_=>fun x c L y o n N r Nx=>byx1_0 x c L y o n N r Nx
 |1,_=>fun x c L y o n N r Nx=>byx1_1 x c L y o n N r Nx
 |2,_=>fun x c L y o n N r Nx=>byx1_2 x c L y o n N r Nx
 |3,_=>fun x c L y o n N r Nx=>byx1_3 x c L y o n N r Nx
 |4,_=>fun x c L y o n N r Nx=>byx1_4 x c L y o n N r Nx
 |5,_=>fun x c L y o n N r Nx=>byx1_5 x c L y o n N r Nx
 |6,_=>fun x c L y o n N r Nx=>byx1_6 x c L y o n N r Nx
 |7,_=>fun x c L y o n N r Nx=>byx1_7 x c L y o n N r Nx
 |8,_=>fun x c L y o n N r Nx=>byx1_8 x c L y o n N r Nx
 |9,_=>fun x c L y o n N r Nx=>byx1_9 x c L y o n N r Nx
 |10,_=>fun x c L y o n N r Nx=>byx1_10 x c L y o n N r Nx
 |i+11,h=>absurd h (by omega)
theorem byRnd2: ∀i g:Nat,i≤9→g≤1→ByRnd 2 i g
 |0,0,_,_=>fun x c L y o n N r=>⟨_,_,_,_,_,fun Nx=>byr2_0_0 x c L y o n N r Nx⟩
 |0,1,_,_=>fun x c L y o n N r=>⟨_,_,_,_,_,fun Nx=>byr2_0_1 x c L y o n N r Nx⟩
 |1,0,_,_=>fun x c L y o n N r=>⟨_,_,_,_,_,fun Nx=>byr2_1_0 x c L y o n N r Nx⟩
 |1,1,_,_=>fun x c L y o n N r=>⟨_,_,_,_,_,fun Nx=>byr2_1_1 x c L y o n N r Nx⟩
 |2,0,_,_=>fun x c L y o n N r=>⟨_,_,_,_,_,fun Nx=>byr2_2_0 x c L y o n N r Nx⟩
 |2,1,_,_=>fun x c L y o n N r=>⟨_,_,_,_,_,fun Nx=>byr2_2_1 x c L y o n N r Nx⟩
 |3,0,_,_=>fun x c L y o n N r=>⟨_,_,_,_,_,fun Nx=>byr2_3_0 x c L y o n N r Nx⟩
 |3,1,_,_=>fun x c L y o n N r=>⟨_,_,_,_,_,fun Nx=>byr2_3_1 x c L y o n N r Nx⟩
 |4,0,_,_=>fun x c L y o n N r=>⟨_,_,_,_,_,fun Nx=>byr2_4_0 x c L y o n N r Nx⟩
 |4,1,_,_=>fun x c L y o n N r=>⟨_,_,_,_,_,fun Nx=>byr2_4_1 x c L y o n N r Nx⟩
 |5,0,_,_=>fun x c L y o n N r=>⟨_,_,_,_,_,fun Nx=>byr2_5_0 x c L y o n N r Nx⟩
 |5,1,_,_=>fun x c L y o n N r=>⟨_,_,_,_,_,fun Nx=>byr2_5_1 x c L y o n N r Nx⟩
 |6,0,_,_=>fun x c L y o n N r=>⟨_,_,_,_,_,fun Nx=>byr2_6_0 x c L y o n N r Nx⟩
 |6,1,_,_=>fun x c L y o n N r=>⟨_,_,_,_,_,fun Nx=>byr2_6_1 x c L y o n N r Nx⟩
 |7,0,_,_=>fun x c L y o n N r=>⟨_,_,_,_,_,fun Nx=>byr2_7_0 x c L y o n N r Nx⟩
 |7,1,_,_=>fun x c L y o n N r=>⟨_,_,_,_,_,fun Nx=>byr2_7_1 x c L y o n N r Nx⟩
 |8,0,_,_=>fun x c L y o n N r=>⟨_,_,_,_,_,fun Nx=>byr2_8_0 x c L y o n N r Nx⟩
 |8,1,_,_=>fun x c L y o n N r=>⟨_,_,_,_,_,fun Nx=>byr2_8_1 x c L y o n N r Nx⟩
 |9,0,_,_=>fun x c L y o n N r=>⟨_,_,_,_,_,fun Nx=>byr2_9_0 x c L y o n N r Nx⟩
 |9,1,_,_=>fun x c L y o n N r=>⟨_,_,_,_,_,fun Nx=>byr2_9_1 x c L y o n N r Nx⟩
 |i+10,_,h,_=>absurd h (by omega)
 |_,g+2,_,h=>absurd h (by omega)
theorem byEx2: ∀i:Nat,i≤10→ByEx 2 i
 |0,_=>fun x c L y o n N r Nx=>byx2_0 x c L y o n N r Nx
 |1,_=>fun x c L y o n N r Nx=>byx2_1 x c L y o n N r Nx
 |2,_=>fun x c L y o n N r Nx=>byx2_2 x c L y o n N r Nx
 |3,_=>fun x c L y o n N r Nx=>byx2_3 x c L y o n N r Nx
 |4,_=>fun x c L y o n N r Nx=>byx2_4 x c L y o n N r Nx
 |5,_=>fun x c L y o n N r Nx=>byx2_5 x c L y o n N r Nx
 |6,_=>fun x c L y o n N r Nx=>byx2_6 x c L y o n N r Nx
 |7,_=>fun x c L y o n N r Nx=>byx2_7 x c L y o n N r Nx
 |8,_=>fun x c L y o n N r Nx=>byx2_8 x c L y o n N r Nx
 |9,_=>fun x c L y o n N r Nx=>byx2_9 x c L y o n N r Nx
 |10,_=>fun x c L y o n N r Nx=>byx2_10 x c L y o n N r Nx
 |i+11,h=>absurd h (by omega)
theorem byRnd3: ∀i g:Nat,i≤9→g≤1→ByRnd 3 i g
 |0,0,_,_=>fun x c L y o n N r=>⟨_,_,_,_,_,fun Nx=>byr3_0_0 x c L y o n N r Nx⟩
 |0,1,_,_=>fun x c L y o n N r=>⟨_,_,_,_,_,fun Nx=>byr3_0_1 x c L y o n N r Nx⟩
 |1,0,_,_=>fun x c L y o n N r=>⟨_,_,_,_,_,fun Nx=>byr3_1_0 x c L y o n N r Nx⟩
 |1,1,_,_=>fun x c L y o n N r=>⟨_,_,_,_,_,fun Nx=>byr3_1_1 x c L y o n N r Nx⟩
 |2,0,_,_=>fun x c L y o n N r=>⟨_,_,_,_,_,fun Nx=>byr3_2_0 x c L y o n N r Nx⟩
 |2,1,_,_=>fun x c L y o n N r=>⟨_,_,_,_,_,fun Nx=>byr3_2_1 x c L y o n N r Nx⟩
 |3,0,_,_=>fun x c L y o n N r=>⟨_,_,_,_,_,fun Nx=>byr3_3_0 x c L y o n N r Nx⟩
 |3,1,_,_=>fun x c L y o n N r=>⟨_,_,_,_,_,fun Nx=>byr3_3_1 x c L y o n N r Nx⟩
 |4,0,_,_=>fun x c L y o n N r=>⟨_,_,_,_,_,fun Nx=>byr3_4_0 x c L y o n N r Nx⟩
 |4,1,_,_=>fun x c L y o n N r=>⟨_,_,_,_,_,fun Nx=>byr3_4_1 x c L y o n N r Nx⟩
 |5,0,_,_=>fun x c L y o n N r=>⟨_,_,_,_,_,fun Nx=>byr3_5_0 x c L y o n N r Nx⟩
 |5,1,_,_=>fun x c L y o n N r=>⟨_,_,_,_,_,fun Nx=>byr3_5_1 x c L y o n N r Nx⟩
 |6,0,_,_=>fun x c L y o n N r=>⟨_,_,_,_,_,fun Nx=>byr3_6_0 x c L y o n N r Nx⟩
 |6,1,_,_=>fun x c L y o n N r=>⟨_,_,_,_,_,fun Nx=>byr3_6_1 x c L y o n N r Nx⟩
 |7,0,_,_=>fun x c L y o n N r=>⟨_,_,_,_,_,fun Nx=>byr3_7_0 x c L y o n N r Nx⟩
 |7,1,_,_=>fun x c L y o n N r=>⟨_,_,_,_,_,fun Nx=>byr3_7_1 x c L y o n N r Nx⟩
 |8,0,_,_=>fun x c L y o n N r=>⟨_,_,_,_,_,fun Nx=>byr3_8_0 x c L y o n N r Nx⟩
 |8,1,_,_=>fun x c L y o n N r=>⟨_,_,_,_,_,fun Nx=>byr3_8_1 x c L y o n N r Nx⟩
 |9,0,_,_=>fun x c L y o n N r=>⟨_,_,_,_,_,fun Nx=>byr3_9_0 x c L y o n N r Nx⟩
 |9,1,_,_=>fun x c L y o n N r=>⟨_,_,_,_,_,fun Nx=>byr3_9_1 x c L y o n N r Nx⟩
 |i+10,_,h,_=>absurd h (by omega)
 |_,g+2,_,h=>absurd h (by omega)
theorem byEx3: ∀i:Nat,i≤10→ByEx 3 i
 |0,_=>fun x c L y o n N r Nx=>byx3_0 x c L y o n N r Nx
 |1,_=>fun x c L y o n N r Nx=>byx3_1 x c L y o n N r Nx
 |2,_=>fun x c L y o n N r Nx=>byx3_2 x c L y o n N r Nx
 |3,_=>fun x c L y o n N r Nx=>byx3_3 x c L y o n N r Nx
 |4,_=>fun x c L y o n N r Nx=>byx3_4 x c L y o n N r Nx
 |5,_=>fun x c L y o n N r Nx=>byx3_5 x c L y o n N r Nx
 |6,_=>fun x c L y o n N r Nx=>byx3_6 x c L y o n N r Nx
 |7,_=>fun x c L y o n N r Nx=>byx3_7 x c L y o n N r Nx
 |8,_=>fun x c L y o n N r Nx=>byx3_8 x c L y o n N r Nx
 |9,_=>fun x c L y o n N r Nx=>byx3_9 x c L y o n N r Nx
 |10,_=>fun x c L y o n N r Nx=>byx3_10 x c L y o n N r Nx
 |i+11,h=>absurd h (by omega)
theorem byRnd4: ∀i g:Nat,i≤9→g≤1→ByRnd 4 i g
 |0,0,_,_=>fun x c L y o n N r=>⟨_,_,_,_,_,fun Nx=>byr4_0_0 x c L y o n N r Nx⟩
 |0,1,_,_=>fun x c L y o n N r=>⟨_,_,_,_,_,fun Nx=>byr4_0_1 x c L y o n N r Nx⟩
 |1,0,_,_=>fun x c L y o n N r=>⟨_,_,_,_,_,fun Nx=>byr4_1_0 x c L y o n N r Nx⟩
 |1,1,_,_=>fun x c L y o n N r=>⟨_,_,_,_,_,fun Nx=>byr4_1_1 x c L y o n N r Nx⟩
 |2,0,_,_=>fun x c L y o n N r=>⟨_,_,_,_,_,fun Nx=>byr4_2_0 x c L y o n N r Nx⟩
 |2,1,_,_=>fun x c L y o n N r=>⟨_,_,_,_,_,fun Nx=>byr4_2_1 x c L y o n N r Nx⟩
 |3,0,_,_=>fun x c L y o n N r=>⟨_,_,_,_,_,fun Nx=>byr4_3_0 x c L y o n N r Nx⟩
 |3,1,_,_=>fun x c L y o n N r=>⟨_,_,_,_,_,fun Nx=>byr4_3_1 x c L y o n N r Nx⟩
 |4,0,_,_=>fun x c L y o n N r=>⟨_,_,_,_,_,fun Nx=>byr4_4_0 x c L y o n N r Nx⟩
 |4,1,_,_=>fun x c L y o n N r=>⟨_,_,_,_,_,fun Nx=>byr4_4_1 x c L y o n N r Nx⟩
 |5,0,_,_=>fun x c L y o n N r=>⟨_,_,_,_,_,fun Nx=>byr4_5_0 x c L y o n N r Nx⟩
 |5,1,_,_=>fun x c L y o n N r=>⟨_,_,_,_,_,fun Nx=>byr4_5_1 x c L y o n N r Nx⟩
 |6,0,_,_=>fun x c L y o n N r=>⟨_,_,_,_,_,fun Nx=>byr4_6_0 x c L y o n N r Nx⟩
 |6,1,_,_=>fun x c L y o n N r=>⟨_,_,_,_,_,fun Nx=>byr4_6_1 x c L y o n N r Nx⟩
 |7,0,_,_=>fun x c L y o n N r=>⟨_,_,_,_,_,fun Nx=>byr4_7_0 x c L y o n N r Nx⟩
 |7,1,_,_=>fun x c L y o n N r=>⟨_,_,_,_,_,fun Nx=>byr4_7_1 x c L y o n N r Nx⟩
 |8,0,_,_=>fun x c L y o n N r=>⟨_,_,_,_,_,fun Nx=>byr4_8_0 x c L y o n N r Nx⟩
 |8,1,_,_=>fun x c L y o n N r=>⟨_,_,_,_,_,fun Nx=>byr4_8_1 x c L y o n N r Nx⟩
 |9,0,_,_=>fun x c L y o n N r=>⟨_,_,_,_,_,fun Nx=>byr4_9_0 x c L y o n N r Nx⟩
 |9,1,_,_=>fun x c L y o n N r=>⟨_,_,_,_,_,fun Nx=>byr4_9_1 x c L y o n N r Nx⟩
 |i+10,_,h,_=>absurd h (by omega)
 |_,g+2,_,h=>absurd h (by omega)
theorem byEx4: ∀i:Nat,i≤10→ByEx 4 i
 |0,_=>fun x c L y o n N r Nx=>byx4_0 x c L y o n N r Nx
 |1,_=>fun x c L y o n N r Nx=>byx4_1 x c L y o n N r Nx
 |2,_=>fun x c L y o n N r Nx=>byx4_2 x c L y o n N r Nx
 |3,_=>fun x c L y o n N r Nx=>byx4_3 x c L y o n N r Nx
 |4,_=>fun x c L y o n N r Nx=>byx4_4 x c L y o n N r Nx
 |5,_=>fun x c L y o n N r Nx=>byx4_5 x c L y o n N r Nx
 |6,_=>fun x c L y o n N r Nx=>byx4_6 x c L y o n N r Nx
 |7,_=>fun x c L y o n N r Nx=>byx4_7 x c L y o n N r Nx
 |8,_=>fun x c L y o n N r Nx=>byx4_8 x c L y o n N r Nx
 |9,_=>fun x c L y o n N r Nx=>byx4_9 x c L y o n N r Nx
 |10,_=>fun x c L y o n N r Nx=>byx4_10 x c L y o n N r Nx
 |i+11,h=>absurd h (by omega)
theorem byRnd5: ∀i g:Nat,i≤9→g≤1→ByRnd 5 i g
 |0,0,_,_=>fun x c L y o n N r=>⟨_,_,_,_,_,fun Nx=>byr5_0_0 x c L y o n N r Nx⟩
 |0,1,_,_=>fun x c L y o n N r=>⟨_,_,_,_,_,fun Nx=>byr5_0_1 x c L y o n N r Nx⟩
 |1,0,_,_=>fun x c L y o n N r=>⟨_,_,_,_,_,fun Nx=>byr5_1_0 x c L y o n N r Nx⟩
 |1,1,_,_=>fun x c L y o n N r=>⟨_,_,_,_,_,fun Nx=>byr5_1_1 x c L y o n N r Nx⟩
 |2,0,_,_=>fun x c L y o n N r=>⟨_,_,_,_,_,fun Nx=>byr5_2_0 x c L y o n N r Nx⟩
 |2,1,_,_=>fun x c L y o n N r=>⟨_,_,_,_,_,fun Nx=>byr5_2_1 x c L y o n N r Nx⟩
 |3,0,_,_=>fun x c L y o n N r=>⟨_,_,_,_,_,fun Nx=>byr5_3_0 x c L y o n N r Nx⟩
 |3,1,_,_=>fun x c L y o n N r=>⟨_,_,_,_,_,fun Nx=>byr5_3_1 x c L y o n N r Nx⟩
 |4,0,_,_=>fun x c L y o n N r=>⟨_,_,_,_,_,fun Nx=>byr5_4_0 x c L y o n N r Nx⟩
 |4,1,_,_=>fun x c L y o n N r=>⟨_,_,_,_,_,fun Nx=>byr5_4_1 x c L y o n N r Nx⟩
 |5,0,_,_=>fun x c L y o n N r=>⟨_,_,_,_,_,fun Nx=>byr5_5_0 x c L y o n N r Nx⟩
 |5,1,_,_=>fun x c L y o n N r=>⟨_,_,_,_,_,fun Nx=>byr5_5_1 x c L y o n N r Nx⟩
 |6,0,_,_=>fun x c L y o n N r=>⟨_,_,_,_,_,fun Nx=>byr5_6_0 x c L y o n N r Nx⟩
 |6,1,_,_=>fun x c L y o n N r=>⟨_,_,_,_,_,fun Nx=>byr5_6_1 x c L y o n N r Nx⟩
 |7,0,_,_=>fun x c L y o n N r=>⟨_,_,_,_,_,fun Nx=>byr5_7_0 x c L y o n N r Nx⟩
 |7,1,_,_=>fun x c L y o n N r=>⟨_,_,_,_,_,fun Nx=>byr5_7_1 x c L y o n N r Nx⟩
 |8,0,_,_=>fun x c L y o n N r=>⟨_,_,_,_,_,fun Nx=>byr5_8_0 x c L y o n N r Nx⟩
 |8,1,_,_=>fun x c L y o n N r=>⟨_,_,_,_,_,fun Nx=>byr5_8_1 x c L y o n N r Nx⟩
 |9,0,_,_=>fun x c L y o n N r=>⟨_,_,_,_,_,fun Nx=>byr5_9_0 x c L y o n N r Nx⟩
 |9,1,_,_=>fun x c L y o n N r=>⟨_,_,_,_,_,fun Nx=>byr5_9_1 x c L y o n N r Nx⟩
 |i+10,_,h,_=>absurd h (by omega)
 |_,g+2,_,h=>absurd h (by omega)
theorem byEx5: ∀i:Nat,i≤10→ByEx 5 i
 |0,_=>fun x c L y o n N r Nx=>byx5_0 x c L y o n N r Nx
 |1,_=>fun x c L y o n N r Nx=>byx5_1 x c L y o n N r Nx
 |2,_=>fun x c L y o n N r Nx=>byx5_2 x c L y o n N r Nx
 |3,_=>fun x c L y o n N r Nx=>byx5_3 x c L y o n N r Nx
 |4,_=>fun x c L y o n N r Nx=>byx5_4 x c L y o n N r Nx
 |5,_=>fun x c L y o n N r Nx=>byx5_5 x c L y o n N r Nx
 |6,_=>fun x c L y o n N r Nx=>byx5_6 x c L y o n N r Nx
 |7,_=>fun x c L y o n N r Nx=>byx5_7 x c L y o n N r Nx
 |8,_=>fun x c L y o n N r Nx=>byx5_8 x c L y o n N r Nx
 |9,_=>fun x c L y o n N r Nx=>byx5_9 x c L y o n N r Nx
 |10,_=>fun x c L y o n N r Nx=>byx5_10 x c L y o n N r Nx
 |i+11,h=>absurd h (by omega)
theorem byRnd: ∀m i g:Nat,1≤m→m≤5→i≤9→g≤1→ByRnd m i g
 |1,i,g,_,_,h,k=>byRnd1 i g h k
 |2,i,g,_,_,h,k=>byRnd2 i g h k
 |3,i,g,_,_,h,k=>byRnd3 i g h k
 |4,i,g,_,_,h,k=>byRnd4 i g h k
 |5,i,g,_,_,h,k=>byRnd5 i g h k
 |0,_,_,h,_,_,_=>absurd h (by omega)
 |m+6,_,_,_,h,_,_=>absurd h (by omega)
theorem byEx: ∀m i:Nat,1≤m→m≤5→i≤10→ByEx m i
 |1,i,_,_,h=>byEx1 i h
 |2,i,_,_,h=>byEx2 i h
 |3,i,_,_,h=>byEx3 i h
 |4,i,_,_,h=>byEx4 i h
 |5,i,_,_,h=>byEx5 i h
 |0,_,h,_,_=>absurd h (by omega)
 |m+6,_,_,h,_=>absurd h (by omega)
theorem bySeen{m i:Nat}(h1:1≤m)(h2:m≤5){g:AObj}{o n N:Int}{r:Nat}{e:Nat→Nat→Td}{β:Bs}{f:AFr}:Seen β f (mkS (byS m g (i+1) o n N r e)) f (mkS (byS m g (i+1) o n N r dustE)):=by
 match m,h1,h2 with
 |1,_,_=>exact Seen.dust
 |2,_,_=>exact Seen.dust
 |3,_,_=>exact Seen.dust
 |4,_,_=>exact Seen.dust
 |5,_,_=>exact Seen.dust
theorem ndL_of{N:Int}{K:Prop}(hK:K): ∀k,ndL N k K
 |0=>hK
 |k+1=>need_of (by simp) (ndL_of hK k)
theorem ndA_of{x N:Int}{m:Nat}{K:Prop}(hm:mOf x=Int.ofNat m)(hK:K): ∀c k,k+c=m→ndA x N c k K
 |0,k,h=>by
  have h:k=m:=h
  refine need_of ?_ hK
  rw[hm,h];simp
 |c+1,k,h=>by
  refine need_of ?_ (ndL_of (ndA_of hm hK c (k+1) (by omega)) 2)
  rw[hm]
  simp only[decide_eq_true_eq,Int.ofNat_eq_natCast];omega
theorem ndG_of{y:Nat→Int}{i L g:Nat}{K:Prop}(hi:i<L)(hg:gOf (y i)=Int.ofNat g)(hK:K): ∀c k,k+c=g→ndG y i L c k K
 |0,k,h=>by
  have h:k=g:=h
  refine need_of (by simpa using hi) (need_of (by simpa using hi) (need_of ?_ hK))
  rw[Nat.zero_add,hg,h];simp
 |c+1,k,h=>by
  refine need_of (by simpa using hi) (need_of (by simpa using hi) (need_of ?_ (ndG_of hi hg hK c (k+1) (by omega))))
  rw[Nat.zero_add,hg]
  simp only[decide_eq_true_eq,Int.ofNat_eq_natCast];omega
structure PBy where
 i:Nat
 o:Int
 n:Int
 N:Int
 r:Nat
def exBy(m L:Nat)(x:Int)(c:Nat)(y:Nat→Int)(K:Kt):Prop:= ∀(o n N:Int) (r:Nat),K (.exit 0) (byFr m x (bySlice L c) L) (mkS (byS m (byRow L y) L o n N r dustE))
theorem by_loop{m L:Nat}(h1:1≤m)(h2:m≤5)(hL:L≤10){x:Int}{c:Nat}{y:Nat→Int}(hm:mOf x=Int.ofNat m)(hy: ∀i,i<L→gOf (y i)=1∨gOf (y i)=2){β:Bs}(hβ:β.X.length=1){ex:Nat→Kt→Prop}(hex: ∀K,ex 0 K→exBy m L x c y K):
  LoopJ Tryz.prog β ex 0 (loopOf Tryz.prog 4 0) (byFr m x (bySlice L c) 0) (mkS (byS m (byRow L y) 0 0 0 0 0 dustE)):=by
 refine loop_rule (fun p:PBy=>p.i≤L) (fun p=>byFr m x (bySlice L c) p.i) (fun p=>mkS (byS m (byRow L y) p.i p.o p.n p.N p.r dustE)) (fun p=>L-p.i) (fun p hI K hK=> ?_) ⟨0,0,0,0,0⟩ (Nat.zero_le _)
 have hK:exBy m L x c y K:=hex K hK
 obtain⟨i,o,n,N,r⟩:=p
 have hI:i≤L:=hI
 rcases Nat.lt_or_ge i L with hi|hi
 ·have fin: ∀g:Nat,g≤1→gOf (y i)=Int.ofNat (g+1)→J Tryz.prog β (loopOf Tryz.prog 4 0) (byFr m x (bySlice L c) i) (mkS (byS m (byRow L y) i o n N r dustE)) fun x' f st=>(x'= .normal∧ ∃p':PBy,p'.i≤L∧L-p'.i<L-i∧Seen β f st (byFr m x (bySlice L c) p'.i) (mkS (byS m (byRow L y) p'.i p'.o p'.n p'.N p'.r dustE)))∨(x'≠ .normal∧(∀v,x'≠ .panic v)∧ ∃f1 st1,Seen β f st f1 st1∧K x' f1 st1):=by
   intro g hg hgy
   obtain⟨N0,o',n',N',r',he⟩:=byRnd m i g h1 h2 (by omega) hg x c L y o n N r
   refine pieceO_ok follows toldK_ok hβ (lv:=bySl) (T:=byT) (os:=byW m g) ?_
   rw[he]
   refine need_of (by simpa using hi) (ndA_of hm (ndG_of hi hgy (ndL_of ?_ 6) (g+1) 0 (by omega)) m 0 (by omega))
   exact .inl ⟨rfl,⟨i+1,o',n',N',r'⟩,by show i+1≤L;omega,by show L-(i+1)<L-i;omega,bySeen h1 h2⟩
  rcases hy i hi with h|h
  ·exact fin 0 (by omega) h
  ·exact fin 1 (by omega) h
 ·have:i=L:=by omega
  subst this
  refine pieceO_ok follows toldK_ok hβ (lv:=bySl) (T:=byT) (os:=[false]) ?_
  rw[byEx m i h1 h2 hL]
  refine need_of (by simp) ?_
  exact .inr ⟨by simp,by simp,_,_,Seen.refl _ _ _,hK o n N r⟩
end Go.Proofs.YtibobihgolfplaaGreatDoor.Ev
