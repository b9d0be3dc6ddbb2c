/-
  Closed facts of annunciator/annunciatortop.TopDrop's row and its card.
-/
import Derived.Test.YtpbnlbbieaokoaaGreatDoorCards
import Derived.Test.YtpbnlbbieaokoaaGreatDoorTie
import Derived.Test.YtpbnlbbieaokoaaGreatDoorTdJ
import Derived.ProofKit
import Derived.JoinedOf
import Derived.Lay
import Derived.LaidMore
import Derived.LaidOnce
import Derived.SevenTiedAt
set_option maxRecDepth 100000
namespace Go.Proofs.YtpbnlbbieaokoaaGreatDoor.topDrop
open Go
theorem j11 : ((Rows.topDropRow.recurses == Tryz.prog.recurses 6)) = true := by kernel_rfl
theorem j12 : ((Rows.topDropRow.named == Tryz.prog.varsNamed 6)) = true := by kernel_rfl
theorem j13 : ((Rows.topDropRow.maps == (Tryz.f6.params.toList ++ Rows.topDropSpec.plain.varTypes Tryz.prog).any (Tryz.prog.mapsRec ·))) = true := by kernel_rfl
theorem j14 : ((Rows.topDropRow.ifaces == (Tryz.f6.params.toList ++ Rows.topDropSpec.plain.varTypes Tryz.prog).any (Tryz.prog.ifacesRec ·))) = true := by kernel_rfl
theorem j15 : ((Rows.topDropRow.mapsOut == Tryz.prog.mapsAmong Tryz.f6.resultTypes.toList)) = true := by kernel_rfl
theorem j16 : ((Rows.topDropRow.loops == (Tryz.f6.params.toList ++ Rows.topDropSpec.plain.varTypes Tryz.prog).any (Tryz.prog.loopsFrom ·))) = true := by kernel_rfl
theorem j17 : ((Rows.topDropRow.wideKeys == (Tryz.f6.params.toList ++ Rows.topDropSpec.plain.varTypes Tryz.prog ++ Tryz.f6.resultTypes.toList).any (Tryz.prog.wideKeysFrom ·))) = true := by kernel_rfl
theorem j18 : (Rows.topDropSpec.vars.all (Tryz.prog.varReadable ·)) = true := by kernel_rfl
theorem j19 : (Tryz.f6.resultTypes.all (fun t => Tryz.prog.readableRec t && decide (t < Tryz.prog.types.size))) = true := by kernel_rfl
theorem j20 : ((Rows.topDropRow.ifacesOut == Tryz.f6.resultTypes.toList.any (Tryz.prog.ifacesRec ·))) = true := by kernel_rfl
theorem j21 : ((Rows.topDropRow.loopsOut == Tryz.f6.resultTypes.toList.any (Tryz.prog.loopsFrom ·))) = true := by kernel_rfl
theorem j22 : ((Rows.topDropRow.plainKeys == Tryz.prog.plainKeys)) = true := by kernel_rfl
theorem j23 : (Rows.topDropRow.shortTexts.isNone) = true := by kernel_rfl
theorem j24 : (Tryz.prog.stopsHeard) = true := by kernel_rfl
theorem j25 : (Tryz.prog.mayEnter) = true := by kernel_rfl
theorem j26 : ((Rows.topDropRow.lifted == Tryz.prog.liftsFinal)) = true := by kernel_rfl
theorem j27 : ((Tryz.prog.make == some Rows.topDropRow.make)) = true := by kernel_rfl
theorem j28 : ((Rows.topDropRow.kinds == (if Rows.topDropRow.domain.isEmpty then [] else Tryz.f6.params.toList.map fun t => match Tryz.prog.underlying t with | some (.int k) => some k | _ => none))) = true := by kernel_rfl
theorem j29 : ((Rows.topDropRow.pinned == Rows.topDropRow.pinnedBy)) = true := by kernel_rfl
theorem j30 : ((Rows.topDropRow.veiled == (Tryz.f6.params.toList ++ Rows.topDropSpec.plain.varTypes Tryz.prog ++ Tryz.f6.resultTypes.toList).any (Tryz.prog.veiledRec ·))) = true := by kernel_rfl
theorem j31 : (Rows.topDropRow.veiledFits Tryz.prog Tryz.f6.params.toList (Tryz.f6.params.toList ++ Rows.topDropSpec.plain.varTypes Tryz.prog ++ Tryz.f6.resultTypes.toList)) = true := by kernel_rfl
theorem and_mk {a b : Bool} (ha : a = true) (hb : b = true) : (a && b) = true := by rw [ha, hb]; rfl
theorem closed : joinedFacts Tryz.prog 6 Tryz.f6 Rows.topDropSpec Rows.topDropRow = true := and_mk (and_mk (and_mk (and_mk (and_mk (and_mk (and_mk (and_mk (and_mk (and_mk (and_mk (and_mk (and_mk (and_mk (and_mk (and_mk (and_mk (and_mk (and_mk (and_mk (and_mk (and_mk (and_mk (and_mk (and_mk (and_mk (and_mk (and_mk (and_mk (and_mk (and_mk (j0) j1) j2) j3) j4) j5) j6) j7) j8) j9) j10) j11) j12) j13) j14) j15) j16) j17) j18) j19) j20) j21) j22) j23) j24) j25) j26) j27) j28) j29) j30) j31
theorem named : Tryz.prog.funcNamed "annunciator/annunciatortop.TopDrop" = some 6 := by kernel_rfl
theorem byText : Rows.topDropRow.wfByText (OpenSpec.ofChange Rows.topDropSpec) = true := by kernel_rfl
theorem mainIs : Tryz.prog.mainIs = some (true, "6c350112a92cb84d0af1a9956a67f5f6c428dc88b8fecf8efc530d7893b4d2c2".toList) := by kernel_rfl
theorem looks : true = Tryz.prog.looks [] := by kernel_rfl
theorem goesBy : false = Rows.topDropRow.goesBy Tryz.prog := by kernel_rfl
theorem instance_ : Tryz.f6.isInstance Tryz.prog Rows.topDropRow.origin Rows.topDropRow.targs := of_decide_eq_true (by kernel_rfl)
end Go.Proofs.YtpbnlbbieaokoaaGreatDoor.topDrop
