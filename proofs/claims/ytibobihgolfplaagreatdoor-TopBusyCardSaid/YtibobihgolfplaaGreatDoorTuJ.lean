/-
  Closed facts of annunciator/annunciatortop.TopBusy's row, some of them.
-/
import Derived.Test.YtibobihgolfplaaGreatDoorCards
import Derived.Test.YtibobihgolfplaaGreatDoorTie
import Derived.ProofKit
import Derived.JoinedOf
import Derived.Lay
import Derived.LaidMore
import Derived.LaidOnce
import Derived.SevenTiedAt
set_option maxRecDepth 100000
namespace Go.Proofs.YtibobihgolfplaaGreatDoor.topBusy
open Go
theorem j0:(Rows.topBusyRow.wf (OpenSpec.ofChange Rows.topBusySpec))=true:=by kernel_rfl
theorem j1:(laidOutB Tryz.prog)=true:=by kernel_rfl
theorem j2:(mapsRowed Tryz.prog)=true:=by kernel_rfl
theorem j3:(Tryz.f4.params.all (Tryz.prog.readableRec ·))=true:=by kernel_rfl
theorem j4:(namedTie Tryz.prog Rows.topBusyRow.named Rows.topBusySpec.vars)=true:=by kernel_rfl
theorem j5:((Rows.topBusyRow.stops==[]))=true:=by kernel_rfl
theorem j6:((Tryz.prog.stops==[]))=true:=by kernel_rfl
theorem j7:((Rows.topBusyRow.knobs==[]))=true:=by kernel_rfl
theorem j8:((Tryz.prog.stopKnobs==[]))=true:=by kernel_rfl
theorem j9:((Rows.topBusyRow.inPlace== Tryz.prog.inPlace 4))=true:=by kernel_rfl
theorem j10:((Rows.topBusyRow.unfollowed== Tryz.prog.unfollowed 4))=true:=by kernel_rfl
end Go.Proofs.YtibobihgolfplaaGreatDoor.topBusy
