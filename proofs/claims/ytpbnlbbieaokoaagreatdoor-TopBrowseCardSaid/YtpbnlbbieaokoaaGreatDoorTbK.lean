/-
  Closed facts of annunciator/annunciatortop.TopBrowse's row and its card.
-/
import Derived.Test.YtpbnlbbieaokoaaGreatDoorCards
import Derived.Test.YtpbnlbbieaokoaaGreatDoorTie
import Derived.Test.YtpbnlbbieaokoaaGreatDoorTbJ
import Derived.ProofKit
import Derived.JoinedOf
import Derived.Lay
import Derived.LaidMore
import Derived.LaidOnce
import Derived.SevenTiedAt
set_option maxRecDepth 100000
namespace Go.Proofs.YtpbnlbbieaokoaaGreatDoor.topBrowse
open Go
theorem j11 : ((Rows.topBrowseRow.recurses == Tryz.prog.recurses 5)) = true := by kernel_rfl
theorem j12 : ((Rows.topBrowseRow.named == Tryz.prog.varsNamed 5)) = true := by kernel_rfl
theorem j13 : ((Rows.topBrowseRow.maps == (Tryz.f5.params.toList ++ Rows.topBrowseSpec.plain.varTypes Tryz.prog).any (Tryz.prog.mapsRec ·))) = true := by kernel_rfl
theorem j14 : ((Rows.topBrowseRow.ifaces == (Tryz.f5.params.toList ++ Rows.topBrowseSpec.plain.varTypes Tryz.prog).any (Tryz.prog.ifacesRec ·))) = true := by kernel_rfl
theorem j15 : ((Rows.topBrowseRow.mapsOut == Tryz.prog.mapsAmong Tryz.f5.resultTypes.toList)) = true := by kernel_rfl
theorem j16 : ((Rows.topBrowseRow.loops == (Tryz.f5.params.toList ++ Rows.topBrowseSpec.plain.varTypes Tryz.prog).any (Tryz.prog.loopsFrom ·))) = true := by kernel_rfl
theorem j17 : ((Rows.topBrowseRow.wideKeys == (Tryz.f5.params.toList ++ Rows.topBrowseSpec.plain.varTypes Tryz.prog ++ Tryz.f5.resultTypes.toList).any (Tryz.prog.wideKeysFrom ·))) = true := by kernel_rfl
theorem j18 : (Rows.topBrowseSpec.vars.all (Tryz.prog.varReadable ·)) = true := by kernel_rfl
theorem j19 : (Tryz.f5.resultTypes.all (fun t => Tryz.prog.readableRec t && decide (t < Tryz.prog.types.size))) = true := by kernel_rfl
theorem j20 : ((Rows.topBrowseRow.ifacesOut == Tryz.f5.resultTypes.toList.any (Tryz.prog.ifacesRec ·))) = true := by kernel_rfl
theorem j21 : ((Rows.topBrowseRow.loopsOut == Tryz.f5.resultTypes.toList.any (Tryz.prog.loopsFrom ·))) = true := by kernel_rfl
theorem j22 : ((Rows.topBrowseRow.plainKeys == Tryz.prog.plainKeys)) = true := by kernel_rfl
theorem j23 : (Rows.topBrowseRow.shortTexts.isNone) = true := by kernel_rfl
theorem j24 : (Tryz.prog.stopsHeard) = true := by kernel_rfl
theorem j25 : (Tryz.prog.mayEnter) = true := by kernel_rfl
theorem j26 : ((Rows.topBrowseRow.lifted == Tryz.prog.liftsFinal)) = true := by kernel_rfl
theorem j27 : ((Tryz.prog.make == some Rows.topBrowseRow.make)) = true := by kernel_rfl
theorem j28 : ((Rows.topBrowseRow.kinds == (if Rows.topBrowseRow.domain.isEmpty then [] else Tryz.f5.params.toList.map fun t => match Tryz.prog.underlying t with | some (.int k) => some k | _ => none))) = true := by kernel_rfl
theorem j29 : ((Rows.topBrowseRow.pinned == Rows.topBrowseRow.pinnedBy)) = true := by kernel_rfl
theorem j30 : ((Rows.topBrowseRow.veiled == (Tryz.f5.params.toList ++ Rows.topBrowseSpec.plain.varTypes Tryz.prog ++ Tryz.f5.resultTypes.toList).any (Tryz.prog.veiledRec ·))) = true := by kernel_rfl
theorem j31 : (Rows.topBrowseRow.veiledFits Tryz.prog Tryz.f5.params.toList (Tryz.f5.params.toList ++ Rows.topBrowseSpec.plain.varTypes Tryz.prog ++ Tryz.f5.resultTypes.toList)) = true := by kernel_rfl
theorem and_mk {a b : Bool} (ha : a = true) (hb : b = true) : (a && b) = true := by rw [ha, hb]; rfl
theorem closed : joinedFacts Tryz.prog 5 Tryz.f5 Rows.topBrowseSpec Rows.topBrowseRow = true := and_mk (and_mk (and_mk (and_mk (and_mk (and_mk (and_mk (and_mk (and_mk (and_mk (and_mk (and_mk (and_mk (and_mk (and_mk (and_mk (and_mk (and_mk (and_mk (and_mk (and_mk (and_mk (and_mk (and_mk (and_mk (and_mk (and_mk (and_mk (and_mk (and_mk (and_mk (j0) j1) j2) j3) j4) j5) j6) j7) j8) j9) j10) j11) j12) j13) j14) j15) j16) j17) j18) j19) j20) j21) j22) j23) j24) j25) j26) j27) j28) j29) j30) j31
theorem named : Tryz.prog.funcNamed "annunciator/annunciatortop.TopBrowse" = some 5 := by kernel_rfl
theorem byText : Rows.topBrowseRow.wfByText (OpenSpec.ofChange Rows.topBrowseSpec) = true := by kernel_rfl
theorem mainIs : Tryz.prog.mainIs = some (true, "6c350112a92cb84d0af1a9956a67f5f6c428dc88b8fecf8efc530d7893b4d2c2".toList) := by kernel_rfl
theorem looks : true = Tryz.prog.looks [] := by kernel_rfl
theorem goesBy : false = Rows.topBrowseRow.goesBy Tryz.prog := by kernel_rfl
theorem instance_ : Tryz.f5.isInstance Tryz.prog Rows.topBrowseRow.origin Rows.topBrowseRow.targs := of_decide_eq_true (by kernel_rfl)
end Go.Proofs.YtpbnlbbieaokoaaGreatDoor.topBrowse
