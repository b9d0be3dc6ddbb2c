/-
  Closed facts of annunciator/annunciatortop.TopReals's row and its card.
-/
import Derived.Test.YtpogcoolgnjejaaGreatDoorCards
import Derived.Test.YtpogcoolgnjejaaGreatDoorTie
import Derived.Test.YtpogcoolgnjejaaGreatDoorTyJ
import Derived.ProofKit
import Derived.JoinedOf
import Derived.Lay
import Derived.LaidMore
import Derived.LaidOnce
import Derived.SevenTiedAt
set_option maxRecDepth 100000
namespace Go.Proofs.YtpogcoolgnjejaaGreatDoor.topReals
open Go
theorem j11 : ((Rows.topRealsRow.recurses == Tryz.prog.recurses 3)) = true := by kernel_rfl
theorem j12 : ((Rows.topRealsRow.named == Tryz.prog.varsNamed 3)) = true := by kernel_rfl
theorem j13 : ((Rows.topRealsRow.maps == (Tryz.f3.params.toList ++ Rows.topRealsSpec.plain.varTypes Tryz.prog).any (Tryz.prog.mapsRec ·))) = true := by kernel_rfl
theorem j14 : ((Rows.topRealsRow.ifaces == (Tryz.f3.params.toList ++ Rows.topRealsSpec.plain.varTypes Tryz.prog).any (Tryz.prog.ifacesRec ·))) = true := by kernel_rfl
theorem j15 : ((Rows.topRealsRow.mapsOut == Tryz.prog.mapsAmong Tryz.f3.resultTypes.toList)) = true := by kernel_rfl
theorem j16 : ((Rows.topRealsRow.loops == (Tryz.f3.params.toList ++ Rows.topRealsSpec.plain.varTypes Tryz.prog).any (Tryz.prog.loopsFrom ·))) = true := by kernel_rfl
theorem j17 : ((Rows.topRealsRow.wideKeys == (Tryz.f3.params.toList ++ Rows.topRealsSpec.plain.varTypes Tryz.prog ++ Tryz.f3.resultTypes.toList).any (Tryz.prog.wideKeysFrom ·))) = true := by kernel_rfl
theorem j18 : (Rows.topRealsSpec.vars.all (Tryz.prog.varReadable ·)) = true := by kernel_rfl
theorem j19 : (Tryz.f3.resultTypes.all (fun t => Tryz.prog.readableRec t && decide (t < Tryz.prog.types.size))) = true := by kernel_rfl
theorem j20 : ((Rows.topRealsRow.ifacesOut == Tryz.f3.resultTypes.toList.any (Tryz.prog.ifacesRec ·))) = true := by kernel_rfl
theorem j21 : ((Rows.topRealsRow.loopsOut == Tryz.f3.resultTypes.toList.any (Tryz.prog.loopsFrom ·))) = true := by kernel_rfl
theorem j22 : ((Rows.topRealsRow.plainKeys == Tryz.prog.plainKeys)) = true := by kernel_rfl
theorem j23 : (Rows.topRealsRow.shortTexts.isNone) = true := by kernel_rfl
theorem j24 : (Tryz.prog.stopsHeard) = true := by kernel_rfl
theorem j25 : (Tryz.prog.mayEnter) = true := by kernel_rfl
theorem j26 : ((Rows.topRealsRow.lifted == Tryz.prog.liftsFinal)) = true := by kernel_rfl
theorem j27 : ((Tryz.prog.make == some Rows.topRealsRow.make)) = true := by kernel_rfl
theorem j28 : ((Rows.topRealsRow.kinds == (if Rows.topRealsRow.domain.isEmpty then [] else Tryz.f3.params.toList.map fun t => match Tryz.prog.underlying t with | some (.int k) => some k | _ => none))) = true := by kernel_rfl
theorem j29 : ((Rows.topRealsRow.pinned == Rows.topRealsRow.pinnedBy)) = true := by kernel_rfl
theorem j30 : ((Rows.topRealsRow.veiled == (Tryz.f3.params.toList ++ Rows.topRealsSpec.plain.varTypes Tryz.prog ++ Tryz.f3.resultTypes.toList).any (Tryz.prog.veiledRec ·))) = true := by kernel_rfl
theorem j31 : (Rows.topRealsRow.veiledFits Tryz.prog Tryz.f3.params.toList (Tryz.f3.params.toList ++ Rows.topRealsSpec.plain.varTypes Tryz.prog ++ Tryz.f3.resultTypes.toList)) = true := by kernel_rfl
theorem and_mk {a b : Bool} (ha : a = true) (hb : b = true) : (a && b) = true := by rw [ha, hb]; rfl
theorem closed : joinedFacts Tryz.prog 3 Tryz.f3 Rows.topRealsSpec Rows.topRealsRow = true := and_mk (and_mk (and_mk (and_mk (and_mk (and_mk (and_mk (and_mk (and_mk (and_mk (and_mk (and_mk (and_mk (and_mk (and_mk (and_mk (and_mk (and_mk (and_mk (and_mk (and_mk (and_mk (and_mk (and_mk (and_mk (and_mk (and_mk (and_mk (and_mk (and_mk (and_mk (j0) j1) j2) j3) j4) j5) j6) j7) j8) j9) j10) j11) j12) j13) j14) j15) j16) j17) j18) j19) j20) j21) j22) j23) j24) j25) j26) j27) j28) j29) j30) j31
theorem named : Tryz.prog.funcNamed "annunciator/annunciatortop.TopReals" = some 3 := by kernel_rfl
theorem byText : Rows.topRealsRow.wfByText (OpenSpec.ofChange Rows.topRealsSpec) = true := by kernel_rfl
theorem mainIs : Tryz.prog.mainIs = some (true, "b4f529682a978c474d5f1661e92fb5a8a081a7f5d4e20813589cee23eaf689b8".toList) := by kernel_rfl
theorem looks : true = Tryz.prog.looks [] := by kernel_rfl
theorem goesBy : false = Rows.topRealsRow.goesBy Tryz.prog := by kernel_rfl
theorem instance_ : Tryz.f3.isInstance Tryz.prog Rows.topRealsRow.origin Rows.topRealsRow.targs := of_decide_eq_true (by kernel_rfl)
end Go.Proofs.YtpogcoolgnjejaaGreatDoor.topReals
