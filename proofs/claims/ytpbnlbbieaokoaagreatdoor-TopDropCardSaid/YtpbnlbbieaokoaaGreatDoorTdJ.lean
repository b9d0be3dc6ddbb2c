/-
  Closed facts of annunciator/annunciatortop.TopDrop's row, some of them.
-/
import Derived.Test.YtpbnlbbieaokoaaGreatDoorCards
import Derived.Test.YtpbnlbbieaokoaaGreatDoorTie
import Derived.ProofKit
import Derived.JoinedOf
import Derived.Lay
import Derived.LaidMore
import Derived.LaidOnce
import Derived.SevenTiedAt
set_option maxRecDepth 100000
namespace Go.Proofs.YtpbnlbbieaokoaaGreatDoor.topDrop
open Go
theorem j0 : (Rows.topDropRow.wf (OpenSpec.ofChange Rows.topDropSpec)) = true := by kernel_rfl
theorem j1 : (laidOutB Tryz.prog) = true := by kernel_rfl
theorem j2 : (mapsRowed Tryz.prog) = true := by kernel_rfl
theorem j3 : (Tryz.f6.params.all (Tryz.prog.readableRec ·)) = true := by kernel_rfl
theorem j4 : (namedTie Tryz.prog Rows.topDropRow.named Rows.topDropSpec.vars) = true := by kernel_rfl
theorem j5 : ((Rows.topDropRow.stops == [])) = true := by kernel_rfl
theorem j6 : ((Tryz.prog.stops == [])) = true := by kernel_rfl
theorem j7 : ((Rows.topDropRow.knobs == [])) = true := by kernel_rfl
theorem j8 : ((Tryz.prog.stopKnobs == [])) = true := by kernel_rfl
theorem j9 : ((Rows.topDropRow.inPlace == Tryz.prog.inPlace 6)) = true := by kernel_rfl
theorem j10 : ((Rows.topDropRow.unfollowed == Tryz.prog.unfollowed 6)) = true := by kernel_rfl
end Go.Proofs.YtpbnlbbieaokoaaGreatDoor.topDrop
