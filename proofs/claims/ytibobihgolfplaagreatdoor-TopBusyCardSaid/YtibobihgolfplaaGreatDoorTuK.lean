/-
  Closed facts of annunciator/annunciatortop.TopBusy's row and its card.
-/
import Derived.Test.YtibobihgolfplaaGreatDoorCards
import Derived.Test.YtibobihgolfplaaGreatDoorTie
import Derived.Test.YtibobihgolfplaaGreatDoorTuJ
import Derived.ProofKit
import Derived.JoinedOf
import Derived.Lay
import Derived.LaidMore
import Derived.LaidOnce
import Derived.SevenTiedAt
set_option maxRecDepth 100000
namespace Go.Proofs.YtibobihgolfplaaGreatDoor.topBusy
open Go
theorem j11:((Rows.topBusyRow.recurses== Tryz.prog.recurses 4))=true:=by kernel_rfl
theorem j12:((Rows.topBusyRow.named== Tryz.prog.varsNamed 4))=true:=by kernel_rfl
theorem j13:((Rows.topBusyRow.maps==(Tryz.f4.params.toList++Rows.topBusySpec.plain.varTypes Tryz.prog).any (Tryz.prog.mapsRec ·)))=true:=by kernel_rfl
theorem j14:((Rows.topBusyRow.ifaces==(Tryz.f4.params.toList++Rows.topBusySpec.plain.varTypes Tryz.prog).any (Tryz.prog.ifacesRec ·)))=true:=by kernel_rfl
theorem j15:((Rows.topBusyRow.mapsOut== Tryz.prog.mapsAmong Tryz.f4.resultTypes.toList))=true:=by kernel_rfl
theorem j16:((Rows.topBusyRow.loops==(Tryz.f4.params.toList++Rows.topBusySpec.plain.varTypes Tryz.prog).any (Tryz.prog.loopsFrom ·)))=true:=by kernel_rfl
theorem j17:((Rows.topBusyRow.wideKeys==(Tryz.f4.params.toList++Rows.topBusySpec.plain.varTypes Tryz.prog++ Tryz.f4.resultTypes.toList).any (Tryz.prog.wideKeysFrom ·)))=true:=by kernel_rfl
theorem j18:(Rows.topBusySpec.vars.all (Tryz.prog.varReadable ·))=true:=by kernel_rfl
theorem j19:(Tryz.f4.resultTypes.all (fun t=> Tryz.prog.readableRec t&&decide (t< Tryz.prog.types.size)))=true:=by kernel_rfl
theorem j20:((Rows.topBusyRow.ifacesOut== Tryz.f4.resultTypes.toList.any (Tryz.prog.ifacesRec ·)))=true:=by kernel_rfl
theorem j21:((Rows.topBusyRow.loopsOut== Tryz.f4.resultTypes.toList.any (Tryz.prog.loopsFrom ·)))=true:=by kernel_rfl
theorem j22:((Rows.topBusyRow.plainKeys== Tryz.prog.plainKeys))=true:=by kernel_rfl
theorem j23:(Rows.topBusyRow.shortTexts.isNone)=true:=by kernel_rfl
theorem j24:(Tryz.prog.stopsHeard)=true:=by kernel_rfl
theorem j25:(Tryz.prog.mayEnter)=true:=by kernel_rfl
theorem j26:((Rows.topBusyRow.lifted== Tryz.prog.liftsFinal))=true:=by kernel_rfl
theorem j27:((Tryz.prog.make==some Rows.topBusyRow.make))=true:=by kernel_rfl
theorem j28:((Rows.topBusyRow.kinds==(if Rows.topBusyRow.domain.isEmpty then []else Tryz.f4.params.toList.map fun t=>match Tryz.prog.underlying t with|some (.int k)=>some k|_=>none)))=true:=by kernel_rfl
theorem j29:((Rows.topBusyRow.pinned==Rows.topBusyRow.pinnedBy))=true:=by kernel_rfl
theorem j30:((Rows.topBusyRow.veiled==(Tryz.f4.params.toList++Rows.topBusySpec.plain.varTypes Tryz.prog++ Tryz.f4.resultTypes.toList).any (Tryz.prog.veiledRec ·)))=true:=by kernel_rfl
theorem j31:(Rows.topBusyRow.veiledFits Tryz.prog Tryz.f4.params.toList (Tryz.f4.params.toList++Rows.topBusySpec.plain.varTypes Tryz.prog++ Tryz.f4.resultTypes.toList))=true:=by kernel_rfl
theorem and_mk{a b:Bool}(ha:a=true)(hb:b=true):(a&&b)=true:=by rw[ha,hb];rfl
theorem closed:joinedFacts Tryz.prog 4 Tryz.f4 Rows.topBusySpec Rows.topBusyRow=true:=and_mk (and_mk (and_mk (and_mk (and_mk (and_mk (and_mk (and_mk (and_mk (and_mk (and_mk (and_mk (and_mk (and_mk (and_mk (and_mk (and_mk (and_mk (and_mk (and_mk (and_mk (and_mk (and_mk (and_mk (and_mk (and_mk (and_mk (and_mk (and_mk (and_mk (and_mk (j0) j1) j2) j3) j4) j5) j6) j7) j8) j9) j10) j11) j12) j13) j14) j15) j16) j17) j18) j19) j20) j21) j22) j23) j24) j25) j26) j27) j28) j29) j30) j31
theorem named: Tryz.prog.funcNamed "annunciator/annunciatortop.TopBusy" =some 4 :=by kernel_rfl
theorem byText:Rows.topBusyRow.wfByText (OpenSpec.ofChange Rows.topBusySpec)=true:=by kernel_rfl
theorem mainIs: Tryz.prog.mainIs=some (true,"e95ab4c786e8f3fc14edcd112d6291049f8df5203a0a71c3f0f74b6f6156ff0a".toList):=by kernel_rfl
theorem looks:true= Tryz.prog.looks []:=by kernel_rfl
theorem goesBy:false=Rows.topBusyRow.goesBy Tryz.prog:=by kernel_rfl
theorem instance_: Tryz.f4.isInstance Tryz.prog Rows.topBusyRow.origin Rows.topBusyRow.targs:=of_decide_eq_true (by kernel_rfl)
end Go.Proofs.YtibobihgolfplaaGreatDoor.topBusy
