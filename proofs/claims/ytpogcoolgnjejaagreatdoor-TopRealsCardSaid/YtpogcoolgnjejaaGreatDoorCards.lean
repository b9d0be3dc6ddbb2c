/-
  DERIVED. GIVEN WITH THE SEED: THE CARDS: each row of YtpogcoolgnjejaaGreatDoorRows.lean that lists a variable, with what it lists TIED to the program's text (the seventh form; the later family's looks); each row that meets fmt, with fmt's text TOLD by the authors' own Lean function (tested against real Go, not proved from fmt's source: count such statements apart). THE CARD IS WHAT COUNTS. Prove the row's statement (the work); the ties are given (YtpogcoolgnjejaaGreatDoorTie.lean); close each card by the builder's one call (the guide's Derived/Test/ToyasCard.lean, 'card_holds'). Laid BY PROGRAM, IN A SANDBOX (cutbox-door.mjs). By AI agents, Wed Nov 11 2026. No macro, syntax, notation, axiom, sorry.
-/
import Derived.Test.YtpogcoolgnjejaaGreatDoorRows
import GoSem.ClaimSeven
namespace Go.Proofs.YtpogcoolgnjejaaGreatDoor
namespace Rows

/-- THE TIED CARD OF 'annunciatortop.TopReals'. -/
def topRealsCard : Claim7 := { stood := { row := topRealsRow, standIns := [], harness := (true, "b4f529682a978c474d5f1661e92fb5a8a081a7f5d4e20813589cee23eaf689b8"), looks := true }, kinds := [], alts := [], laidByText := true, laidKinds := [.data, .data, .data], laidTests := true, laidLooks := .later }
def TopRealsCardSaid : Prop := Claim7.holds Tryz.pinned (.plain (OpenSpec.ofChange topRealsSpec)) topRealsCard

/-- THE SECOND FORM's CARD OF 'annunciatortop.TopReals'. -/
def topRealsUptoCard : Claim7 := { stood := { row := topRealsUptoRow, standIns := [], harness := (true, "b4f529682a978c474d5f1661e92fb5a8a081a7f5d4e20813589cee23eaf689b8"), looks := true }, kinds := [], alts := [], laidByText := true, laidKinds := [.data, .data, .data], laidTests := true, laidLooks := .later }
def TopRealsUptoCardSaid : Prop := Claim7.holds Tryz.pinned (.plain (OpenSpec.upto topRealsSpec)) topRealsUptoCard
end Rows
end Go.Proofs.YtpogcoolgnjejaaGreatDoor
