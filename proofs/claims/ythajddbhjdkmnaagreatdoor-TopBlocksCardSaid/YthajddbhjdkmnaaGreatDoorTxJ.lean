/-
  Closed facts of annunciator/annunciatortop.TopBlocks's row, some of them.
-/
import Derived.Test.YthajddbhjdkmnaaGreatDoorCards
import Derived.Test.YthajddbhjdkmnaaGreatDoorTie
import Derived.ProofKit
import Derived.JoinedOf
import Derived.Lay
import Derived.LaidMore
import Derived.LaidOnce
import Derived.SevenTiedAt
set_option maxRecDepth 100000
namespace Go.Proofs.YthajddbhjdkmnaaGreatDoor.topBlocks
open Go
theorem j0 : (Rows.topBlocksRow.wf (OpenSpec.ofChange Rows.topBlocksSpec)) = true := by kernel_rfl
theorem j1 : (laidOutB Tryz.prog) = true := by kernel_rfl
theorem j2 : (mapsRowed Tryz.prog) = true := by kernel_rfl
theorem j3 : (Tryz.f3.params.all (Tryz.prog.readableRec ·)) = true := by kernel_rfl
theorem j4 : (namedTie Tryz.prog Rows.topBlocksRow.named Rows.topBlocksSpec.vars) = true := by kernel_rfl
theorem j5 : ((Rows.topBlocksRow.stops == [])) = true := by kernel_rfl
theorem j6 : ((Tryz.prog.stops == [])) = true := by kernel_rfl
theorem j7 : ((Rows.topBlocksRow.knobs == [])) = true := by kernel_rfl
theorem j8 : ((Tryz.prog.stopKnobs == [])) = true := by kernel_rfl
theorem j9 : ((Rows.topBlocksRow.inPlace == Tryz.prog.inPlace 3)) = true := by kernel_rfl
theorem j10 : ((Rows.topBlocksRow.unfollowed == Tryz.prog.unfollowed 3)) = true := by kernel_rfl
end Go.Proofs.YthajddbhjdkmnaaGreatDoor.topBlocks
