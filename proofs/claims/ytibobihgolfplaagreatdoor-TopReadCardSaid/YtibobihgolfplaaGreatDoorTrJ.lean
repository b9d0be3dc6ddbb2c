/-
  Closed facts of annunciator/annunciatortop.TopRead's row, some of them.
-/
import Derived.Test.YtibobihgolfplaaGreatDoorCards
import Derived.Test.YtibobihgolfplaaGreatDoorTie
import Derived.ProofKit
import Derived.JoinedOf
import Derived.Lay
import Derived.LaidMore
import Derived.LaidOnce
import Derived.SevenTiedAt
set_option maxRecDepth 100000
namespace Go.Proofs.YtibobihgolfplaaGreatDoor.topRead
open Go
theorem j0:(Rows.topReadRow.wf (OpenSpec.ofChange Rows.topReadSpec))=true:=by kernel_rfl
theorem j1:(laidOutB Tryz.prog)=true:=by kernel_rfl
theorem j2:(mapsRowed Tryz.prog)=true:=by kernel_rfl
theorem j3:(Tryz.f3.params.all (Tryz.prog.readableRec ·))=true:=by kernel_rfl
theorem j4:(namedTie Tryz.prog Rows.topReadRow.named Rows.topReadSpec.vars)=true:=by kernel_rfl
theorem j5:((Rows.topReadRow.stops==[]))=true:=by kernel_rfl
theorem j6:((Tryz.prog.stops==[]))=true:=by kernel_rfl
theorem j7:((Rows.topReadRow.knobs==[]))=true:=by kernel_rfl
theorem j8:((Tryz.prog.stopKnobs==[]))=true:=by kernel_rfl
theorem j9:((Rows.topReadRow.inPlace== Tryz.prog.inPlace 3))=true:=by kernel_rfl
theorem j10:((Rows.topReadRow.unfollowed== Tryz.prog.unfollowed 3))=true:=by kernel_rfl
end Go.Proofs.YtibobihgolfplaaGreatDoor.topRead
