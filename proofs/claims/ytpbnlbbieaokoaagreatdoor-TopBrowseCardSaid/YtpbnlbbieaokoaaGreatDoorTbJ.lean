/-
  Closed facts of annunciator/annunciatortop.TopBrowse's row, some of them.
-/
import Derived.Test.YtpbnlbbieaokoaaGreatDoorCards
import Derived.Test.YtpbnlbbieaokoaaGreatDoorTie
import Derived.ProofKit
import Derived.JoinedOf
import Derived.Lay
import Derived.LaidMore
import Derived.LaidOnce
import Derived.SevenTiedAt
set_option maxRecDepth 100000
namespace Go.Proofs.YtpbnlbbieaokoaaGreatDoor.topBrowse
open Go
theorem j0 : (Rows.topBrowseRow.wf (OpenSpec.ofChange Rows.topBrowseSpec)) = true := by kernel_rfl
theorem j1 : (laidOutB Tryz.prog) = true := by kernel_rfl
theorem j2 : (mapsRowed Tryz.prog) = true := by kernel_rfl
theorem j3 : (Tryz.f5.params.all (Tryz.prog.readableRec ·)) = true := by kernel_rfl
theorem j4 : (namedTie Tryz.prog Rows.topBrowseRow.named Rows.topBrowseSpec.vars) = true := by kernel_rfl
theorem j5 : ((Rows.topBrowseRow.stops == [])) = true := by kernel_rfl
theorem j6 : ((Tryz.prog.stops == [])) = true := by kernel_rfl
theorem j7 : ((Rows.topBrowseRow.knobs == [])) = true := by kernel_rfl
theorem j8 : ((Tryz.prog.stopKnobs == [])) = true := by kernel_rfl
theorem j9 : ((Rows.topBrowseRow.inPlace == Tryz.prog.inPlace 5)) = true := by kernel_rfl
theorem j10 : ((Rows.topBrowseRow.unfollowed == Tryz.prog.unfollowed 5)) = true := by kernel_rfl
end Go.Proofs.YtpbnlbbieaokoaaGreatDoor.topBrowse
