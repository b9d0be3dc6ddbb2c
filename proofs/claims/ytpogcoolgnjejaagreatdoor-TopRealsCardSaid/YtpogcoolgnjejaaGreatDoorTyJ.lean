/-
  Closed facts of annunciator/annunciatortop.TopReals's row, some of them.
-/
import Derived.Test.YtpogcoolgnjejaaGreatDoorCards
import Derived.Test.YtpogcoolgnjejaaGreatDoorTie
import Derived.ProofKit
import Derived.JoinedOf
import Derived.Lay
import Derived.LaidMore
import Derived.LaidOnce
import Derived.SevenTiedAt
set_option maxRecDepth 100000
namespace Go.Proofs.YtpogcoolgnjejaaGreatDoor.topReals
open Go
theorem j0 : (Rows.topRealsRow.wf (OpenSpec.ofChange Rows.topRealsSpec)) = true := by kernel_rfl
theorem j1 : (laidOutB Tryz.prog) = true := by kernel_rfl
theorem j2 : (mapsRowed Tryz.prog) = true := by kernel_rfl
theorem j3 : (Tryz.f3.params.all (Tryz.prog.readableRec ·)) = true := by kernel_rfl
theorem j4 : (namedTie Tryz.prog Rows.topRealsRow.named Rows.topRealsSpec.vars) = true := by kernel_rfl
theorem j5 : ((Rows.topRealsRow.stops == [])) = true := by kernel_rfl
theorem j6 : ((Tryz.prog.stops == [])) = true := by kernel_rfl
theorem j7 : ((Rows.topRealsRow.knobs == [])) = true := by kernel_rfl
theorem j8 : ((Tryz.prog.stopKnobs == [])) = true := by kernel_rfl
theorem j9 : ((Rows.topRealsRow.inPlace == Tryz.prog.inPlace 3)) = true := by kernel_rfl
theorem j10 : ((Rows.topRealsRow.unfollowed == Tryz.prog.unfollowed 3)) = true := by kernel_rfl
end Go.Proofs.YtpogcoolgnjejaaGreatDoor.topReals
