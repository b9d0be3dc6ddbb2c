/-
  What is told for TopBlocks's own code: a check that fails nothing is told along its way.
-/
import Derived.Test.YthajddbhjdkmnaaGreatDoorTkT
import Derived.Test.YthajddbhjdkmnaaGreatDoorTkS
import Derived.Test.YthajddbhjdkmnaaGreatDoorGh
set_option linter.unusedVariables false
namespace Go.Proofs.YthajddbhjdkmnaaGreatDoor.Ev
open Go
noncomputable def toldK : Told := toldTk.asw Tryz.prog 15 [4] [false]
theorem toldK_ok : ToldS Tryz.prog toldK := Told.asw_ok follows toldTk_ok
noncomputable def tkRow (L : Nat) (y : Nat → Nat → Int) : AObj := .row .still 2 0 L fun i j => .sc (.int .u8 (y i j))
noncomputable def tkBody : Code := loopOf Tryz.prog 3 0
noncomputable def tkMid : Code := blkC (seqA (seqB tkBody))
noncomputable def tkInner : Code := loopOf Tryz.prog 3 2
end Go.Proofs.YthajddbhjdkmnaaGreatDoor.Ev
