/-
  DERIVED. GIVEN WITH THE SEED: THE CARDS: each row of YtpbnlbbieaokoaaGreatDoorRows.lean that lists a variable, with what it lists TIED to the program's text (the seventh form; the later family's looks); each row that meets fmt, with fmt's text TOLD by the authors' own Lean function (tested against real Go, not proved from fmt's source: count such statements apart). THE CARD IS WHAT COUNTS. Prove the row's statement (the work); the ties are given (YtpbnlbbieaokoaaGreatDoorTie.lean); close each card by the builder's one call (the guide's Derived/Test/ToyasCard.lean, 'card_holds'). Laid BY PROGRAM, IN A SANDBOX (cutbox-door.mjs). By AI agents, Wed Nov 11 2026. No macro, syntax, notation, axiom, sorry.
-/
import Derived.Test.YtpbnlbbieaokoaaGreatDoorRows
import GoSem.ClaimSeven
namespace Go.Proofs.YtpbnlbbieaokoaaGreatDoor
namespace Rows

/-- THE TIED CARD OF 'annunciatortop.TopRead'. -/
def topReadCard : Claim7 := { stood := { row := topReadRow, standIns := [], harness := (true, "6c350112a92cb84d0af1a9956a67f5f6c428dc88b8fecf8efc530d7893b4d2c2"), looks := true }, kinds := [], alts := [], laidByText := true, laidKinds := [.data, .data, .data], laidTests := true, laidLooks := .later }
def TopReadCardSaid : Prop := Claim7.holds Tryz.pinned (.plain (OpenSpec.ofChange topReadSpec)) topReadCard

/-- THE TIED CARD OF 'annunciatortop.TopBusy'. -/
def topBusyCard : Claim7 := { stood := { row := topBusyRow, standIns := [], harness := (true, "6c350112a92cb84d0af1a9956a67f5f6c428dc88b8fecf8efc530d7893b4d2c2"), looks := true }, kinds := [], alts := [], laidByText := true, laidKinds := [.data, .data, .data], laidTests := true, laidLooks := .later }
def TopBusyCardSaid : Prop := Claim7.holds Tryz.pinned (.plain (OpenSpec.ofChange topBusySpec)) topBusyCard

/-- THE TIED CARD OF 'annunciatortop.TopBrowse'. -/
def topBrowseCard : Claim7 := { stood := { row := topBrowseRow, standIns := [], harness := (true, "6c350112a92cb84d0af1a9956a67f5f6c428dc88b8fecf8efc530d7893b4d2c2"), looks := true }, kinds := [], alts := [], laidByText := true, laidKinds := [.data, .data, .data], laidTests := true, laidLooks := .later }
def TopBrowseCardSaid : Prop := Claim7.holds Tryz.pinned (.plain (OpenSpec.ofChange topBrowseSpec)) topBrowseCard

/-- THE TIED CARD OF 'annunciatortop.TopDrop'. -/
def topDropCard : Claim7 := { stood := { row := topDropRow, standIns := [], harness := (true, "6c350112a92cb84d0af1a9956a67f5f6c428dc88b8fecf8efc530d7893b4d2c2"), looks := true }, kinds := [], alts := [], laidByText := true, laidKinds := [.data, .data, .data], laidTests := true, laidLooks := .later }
def TopDropCardSaid : Prop := Claim7.holds Tryz.pinned (.plain (OpenSpec.ofChange topDropSpec)) topDropCard

/-- THE SECOND FORM's CARD OF 'annunciatortop.TopRead'. -/
def topReadUptoCard : Claim7 := { stood := { row := topReadUptoRow, standIns := [], harness := (true, "6c350112a92cb84d0af1a9956a67f5f6c428dc88b8fecf8efc530d7893b4d2c2"), looks := true }, kinds := [], alts := [], laidByText := true, laidKinds := [.data, .data, .data], laidTests := true, laidLooks := .later }
def TopReadUptoCardSaid : Prop := Claim7.holds Tryz.pinned (.plain (OpenSpec.upto topReadSpec)) topReadUptoCard

/-- THE SECOND FORM's CARD OF 'annunciatortop.TopBusy'. -/
def topBusyUptoCard : Claim7 := { stood := { row := topBusyUptoRow, standIns := [], harness := (true, "6c350112a92cb84d0af1a9956a67f5f6c428dc88b8fecf8efc530d7893b4d2c2"), looks := true }, kinds := [], alts := [], laidByText := true, laidKinds := [.data, .data, .data], laidTests := true, laidLooks := .later }
def TopBusyUptoCardSaid : Prop := Claim7.holds Tryz.pinned (.plain (OpenSpec.upto topBusySpec)) topBusyUptoCard

/-- THE SECOND FORM's CARD OF 'annunciatortop.TopBrowse'. -/
def topBrowseUptoCard : Claim7 := { stood := { row := topBrowseUptoRow, standIns := [], harness := (true, "6c350112a92cb84d0af1a9956a67f5f6c428dc88b8fecf8efc530d7893b4d2c2"), looks := true }, kinds := [], alts := [], laidByText := true, laidKinds := [.data, .data, .data], laidTests := true, laidLooks := .later }
def TopBrowseUptoCardSaid : Prop := Claim7.holds Tryz.pinned (.plain (OpenSpec.upto topBrowseSpec)) topBrowseUptoCard

/-- THE SECOND FORM's CARD OF 'annunciatortop.TopDrop'. -/
def topDropUptoCard : Claim7 := { stood := { row := topDropUptoRow, standIns := [], harness := (true, "6c350112a92cb84d0af1a9956a67f5f6c428dc88b8fecf8efc530d7893b4d2c2"), looks := true }, kinds := [], alts := [], laidByText := true, laidKinds := [.data, .data, .data], laidTests := true, laidLooks := .later }
def TopDropUptoCardSaid : Prop := Claim7.holds Tryz.pinned (.plain (OpenSpec.upto topDropSpec)) topDropUptoCard
end Rows
end Go.Proofs.YtpbnlbbieaokoaaGreatDoor
