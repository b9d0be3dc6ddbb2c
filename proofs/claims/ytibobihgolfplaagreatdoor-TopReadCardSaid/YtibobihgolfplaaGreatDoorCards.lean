/-
  DERIVED. GIVEN WITH THE SEED: THE CARDS: each row of YtibobihgolfplaaGreatDoorRows.lean that lists a variable, with what it lists TIED to the program's text (the seventh form; the later family's looks); each row that meets fmt, with fmt's text TOLD by the authors' own Lean function (tested against real Go, not proved from fmt's source: count such statements apart). THE CARD IS WHAT COUNTS. Prove the row's statement (the work); the ties are given (YtibobihgolfplaaGreatDoorTie.lean); close each card by the builder's one call (the guide's Derived/Test/ToyasCard.lean, 'card_holds'). Laid BY PROGRAM, IN A SANDBOX (cutbox-door.mjs). By AI agents, Wed Nov 11 2026. No macro, syntax, notation, axiom, sorry.
-/
import Derived.Test.YtibobihgolfplaaGreatDoorRows
import GoSem.ClaimSeven
namespace Go.Proofs.YtibobihgolfplaaGreatDoor
namespace Rows

/-- THE TIED CARD OF 'annunciatortop.TopRead'. -/
def topReadCard : Claim7 := { stood := { row := topReadRow, standIns := [], harness := (true, "e95ab4c786e8f3fc14edcd112d6291049f8df5203a0a71c3f0f74b6f6156ff0a"), looks := true }, kinds := [], alts := [], laidByText := true, laidKinds := [.data, .data, .data], laidTests := true, laidLooks := .later }
def TopReadCardSaid : Prop := Claim7.holds Tryz.pinned (.plain (OpenSpec.ofChange topReadSpec)) topReadCard

/-- THE TIED CARD OF 'annunciatortop.TopBusy'. -/
def topBusyCard : Claim7 := { stood := { row := topBusyRow, standIns := [], harness := (true, "e95ab4c786e8f3fc14edcd112d6291049f8df5203a0a71c3f0f74b6f6156ff0a"), looks := true }, kinds := [], alts := [], laidByText := true, laidKinds := [.data, .data, .data], laidTests := true, laidLooks := .later }
def TopBusyCardSaid : Prop := Claim7.holds Tryz.pinned (.plain (OpenSpec.ofChange topBusySpec)) topBusyCard

/-- THE TIED CARD OF 'annunciatortop.TopReals'. -/
def topRealsCard : Claim7 := { stood := { row := topRealsRow, standIns := [], harness := (true, "e95ab4c786e8f3fc14edcd112d6291049f8df5203a0a71c3f0f74b6f6156ff0a"), looks := true }, kinds := [], alts := [], laidByText := true, laidKinds := [.data, .data, .data], laidTests := true, laidLooks := .later }
def TopRealsCardSaid : Prop := Claim7.holds Tryz.pinned (.plain (OpenSpec.ofChange topRealsSpec)) topRealsCard

/-- THE SECOND FORM's CARD OF 'annunciatortop.TopRead'. -/
def topReadUptoCard : Claim7 := { stood := { row := topReadUptoRow, standIns := [], harness := (true, "e95ab4c786e8f3fc14edcd112d6291049f8df5203a0a71c3f0f74b6f6156ff0a"), looks := true }, kinds := [], alts := [], laidByText := true, laidKinds := [.data, .data, .data], laidTests := true, laidLooks := .later }
def TopReadUptoCardSaid : Prop := Claim7.holds Tryz.pinned (.plain (OpenSpec.upto topReadSpec)) topReadUptoCard

/-- THE SECOND FORM's CARD OF 'annunciatortop.TopBusy'. -/
def topBusyUptoCard : Claim7 := { stood := { row := topBusyUptoRow, standIns := [], harness := (true, "e95ab4c786e8f3fc14edcd112d6291049f8df5203a0a71c3f0f74b6f6156ff0a"), looks := true }, kinds := [], alts := [], laidByText := true, laidKinds := [.data, .data, .data], laidTests := true, laidLooks := .later }
def TopBusyUptoCardSaid : Prop := Claim7.holds Tryz.pinned (.plain (OpenSpec.upto topBusySpec)) topBusyUptoCard

/-- THE SECOND FORM's CARD OF 'annunciatortop.TopReals'. -/
def topRealsUptoCard : Claim7 := { stood := { row := topRealsUptoRow, standIns := [], harness := (true, "e95ab4c786e8f3fc14edcd112d6291049f8df5203a0a71c3f0f74b6f6156ff0a"), looks := true }, kinds := [], alts := [], laidByText := true, laidKinds := [.data, .data, .data], laidTests := true, laidLooks := .later }
def TopRealsUptoCardSaid : Prop := Claim7.holds Tryz.pinned (.plain (OpenSpec.upto topRealsSpec)) topRealsUptoCard
end Rows
end Go.Proofs.YtibobihgolfplaaGreatDoor
