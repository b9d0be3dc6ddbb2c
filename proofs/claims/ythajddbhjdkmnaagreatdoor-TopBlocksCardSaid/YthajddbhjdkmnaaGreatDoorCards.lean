/-
  DERIVED. GIVEN WITH THE SEED: THE CARDS: each row of YthajddbhjdkmnaaGreatDoorRows.lean that lists a variable, with what it lists TIED to the program's text (the seventh form; the later family's looks); each row that meets fmt, with fmt's text TOLD by the authors' own Lean function (tested against real Go, not proved from fmt's source: count such statements apart). THE CARD IS WHAT COUNTS. Prove the row's statement (the work); the ties are given (YthajddbhjdkmnaaGreatDoorTie.lean); close each card by the builder's one call (the guide's Derived/Test/ToyasCard.lean, 'card_holds'). Laid BY PROGRAM, IN A SANDBOX (cutbox-door.mjs). By AI agents, Wed Nov 11 2026. No macro, syntax, notation, axiom, sorry.
-/
import Derived.Test.YthajddbhjdkmnaaGreatDoorRows
import GoSem.ClaimSeven
namespace Go.Proofs.YthajddbhjdkmnaaGreatDoor
namespace Rows

/-- THE TIED CARD OF 'annunciatortop.TopBlocks'. -/
def topBlocksCard : Claim7 := { stood := { row := topBlocksRow, standIns := [], harness := (true, "58ff1fd96e753dc018b48656fb9c464b121e66fe6116d5972be05e9bf18b2b4f"), looks := true }, kinds := [], alts := [], laidByText := true, laidKinds := [.data, .data, .data], laidTests := true, laidLooks := .later }
def TopBlocksCardSaid : Prop := Claim7.holds Tryz.pinned (.plain (OpenSpec.ofChange topBlocksSpec)) topBlocksCard

/-- THE SECOND FORM's CARD OF 'annunciatortop.TopBlocks'. -/
def topBlocksUptoCard : Claim7 := { stood := { row := topBlocksUptoRow, standIns := [], harness := (true, "58ff1fd96e753dc018b48656fb9c464b121e66fe6116d5972be05e9bf18b2b4f"), looks := true }, kinds := [], alts := [], laidByText := true, laidKinds := [.data, .data, .data], laidTests := true, laidLooks := .later }
def TopBlocksUptoCardSaid : Prop := Claim7.holds Tryz.pinned (.plain (OpenSpec.upto topBlocksSpec)) topBlocksUptoCard
end Rows
end Go.Proofs.YthajddbhjdkmnaaGreatDoor
