/-
  No cell of these rows narrows 'for every input' (looked for: loops, veiled, ifaces, maps, wideKeys, modest, calm, conditions, laid).
  DERIVED. THE GIVEN ROWS OF THIS SEAT. 4 by the template 'for every input the law returns true; each argument reads behind the call as it read before'; 0 by the template 'total and deterministic' (their statements: YtaomflhkclljdaaTotals.lean).
  GIVEN WITH THE SEED: the statements are not yours to turn. If you find one false, say at which input.
  Laid BY PROGRAM, IN A SANDBOX (cutbox-rows.mjs): the forced cells as the released guide's own fill.sh prints them over the translation 5e75c5fa782db885… (all of the seat's roots in one cut). By AI agents, Wed Nov 11 2026. No macro, syntax, notation, axiom, sorry.
-/
import Derived.Test.YtaomflhkclljdaaChecked
import GoSem.Claim
import GoSem.ClaimJoined
import GoSem.ClaimMapViews
import Derived.JoinedTies
import Derived.KernelRfl
namespace Go.Proofs.Ytaomflhkclljdaa
/- THE CELL 'sum', in the pinned program and in every row, IS THE sha256 OF THE DUMP (.gsa) THAT YtaomflhkclljdaaProg.lean LOADS. Nothing in Lean hashes anything: it is a label: what it is worth is what the hold of that sum in a sandbox is worth. -/
noncomputable def Try.pinned : Pinned := { name := "ytaomflhkclljdaa", sum := "5e75c5fa782db88531f99651c600903938aaff1820ee16941f27abad3d628136", checked := Try.checked }
namespace Rows
def none {H : Type} : Left H := { results := [], args := [] }

/-- 'annunciatorlaw1.NumWidth': WHATEVER THE INPUT: true; the input reads as it did. -/
def numWidthSpec : ChangeSpec := { name := "numWidth", fn := fun _ => fun
  | [d1, d2] => { results := [.lit (.bool true)], args := [d1, d2] }
  | _ => none }
def numWidthRow : OpenClaim := { program := "ytaomflhkclljdaa", sum := "5e75c5fa782db88531f99651c600903938aaff1820ee16941f27abad3d628136", func := "annunciator/annunciatorlaw1.NumWidth", spec := "numWidth", apart := false }
def NumWidthSaid : Prop := numWidthRow.holds Try.pinned (OpenSpec.ofChange numWidthSpec)

/-- ITS FALSE NEIGHBOUR: 'it returns false'. Refute it at one input. -/
def numWidthWrong : ChangeSpec := { name := "numWidth", fn := fun _ => fun
  | [d1, d2] => { results := [.lit (.bool false)], args := [d1, d2] }
  | _ => none }
def NumWidthWrongFalsely : Prop := numWidthRow.holds Try.pinned (OpenSpec.ofChange numWidthWrong)

/-- 'annunciatorlaw1.NumParts': WHATEVER THE INPUT: true; the input reads as it did. -/
def numPartsSpec : ChangeSpec := { name := "numParts", fn := fun _ => fun
  | [d1, d2] => { results := [.lit (.bool true)], args := [d1, d2] }
  | _ => none }
def numPartsRow : OpenClaim := { program := "ytaomflhkclljdaa", sum := "5e75c5fa782db88531f99651c600903938aaff1820ee16941f27abad3d628136", func := "annunciator/annunciatorlaw1.NumParts", spec := "numParts", apart := false }
def NumPartsSaid : Prop := numPartsRow.holds Try.pinned (OpenSpec.ofChange numPartsSpec)

/-- ITS FALSE NEIGHBOUR: 'it returns false'. Refute it at one input. -/
def numPartsWrong : ChangeSpec := { name := "numParts", fn := fun _ => fun
  | [d1, d2] => { results := [.lit (.bool false)], args := [d1, d2] }
  | _ => none }
def NumPartsWrongFalsely : Prop := numPartsRow.holds Try.pinned (OpenSpec.ofChange numPartsWrong)

/-- 'annunciatorlaw1.NumForms': WHATEVER THE INPUT: true; the input reads as it did. -/
def numFormsSpec : ChangeSpec := { name := "numForms", fn := fun _ => fun
  | [] => { results := [.lit (.bool true)], args := [] }
  | _ => none }
def numFormsRow : OpenClaim := { program := "ytaomflhkclljdaa", sum := "5e75c5fa782db88531f99651c600903938aaff1820ee16941f27abad3d628136", func := "annunciator/annunciatorlaw1.NumForms", spec := "numForms", apart := false }
def NumFormsSaid : Prop := numFormsRow.holds Try.pinned (OpenSpec.ofChange numFormsSpec)

/-- ITS FALSE NEIGHBOUR: 'it returns false'. Refute it at one input. -/
def numFormsWrong : ChangeSpec := { name := "numForms", fn := fun _ => fun
  | [] => { results := [.lit (.bool false)], args := [] }
  | _ => none }
def NumFormsWrongFalsely : Prop := numFormsRow.holds Try.pinned (OpenSpec.ofChange numFormsWrong)

/-- 'annunciatorlaw1.NumTurn': WHATEVER THE INPUT: true; the input reads as it did. -/
def numTurnSpec : ChangeSpec := { name := "numTurn", fn := fun _ => fun
  | [d1, d2] => { results := [.lit (.bool true)], args := [d1, d2] }
  | _ => none }
def numTurnRow : OpenClaim := { program := "ytaomflhkclljdaa", sum := "5e75c5fa782db88531f99651c600903938aaff1820ee16941f27abad3d628136", func := "annunciator/annunciatorlaw1.NumTurn", spec := "numTurn", apart := false }
def NumTurnSaid : Prop := numTurnRow.holds Try.pinned (OpenSpec.ofChange numTurnSpec)

/-- ITS FALSE NEIGHBOUR: 'it returns false'. Refute it at one input. -/
def numTurnWrong : ChangeSpec := { name := "numTurn", fn := fun _ => fun
  | [d1, d2] => { results := [.lit (.bool false)], args := [d1, d2] }
  | _ => none }
def NumTurnWrongFalsely : Prop := numTurnRow.holds Try.pinned (OpenSpec.ofChange numTurnWrong)

/- THE SECOND FORM. 'bulk': how many values and letters a reading holds, each counted each time it is reached (what is shared counts as often as it is met; a slice's spare places count too). A statement '..UptoSaid' is the law's where the arguments, and the package variables that the reading takes, are together of bulk at most 1048576: NARROWER than '..Said'. Prove '..Said' where nothing that the law and all that it calls make is longer than what came in: it says more and counts as full. Else prove '..UptoSaid'. A law counts once. -/
mutual
def uptoBulk {H : Type} : DataW H → Nat
  | .lit (.string bytes) => bytes.length + 1
  | .lit _ => 1
  | .nil => 1
  | .ptr d => uptoBulk d + 1
  | .slice elems spare => uptoBulkAll elems + uptoBulkAll spare + 1
  | .agg parts => uptoBulkAll parts + 1
  | .iface _ d => uptoBulk d + 1
  | .map entries => uptoBulkEntries entries + 1
  | .held _ => 1
def uptoBulkAll {H : Type} : List (DataW H) → Nat
  | [] => 0
  | d :: r => uptoBulk d + uptoBulkAll r
def uptoBulkEntries {H : Type} : List (Lit × DataW H) → Nat
  | [] => 0
  | x :: r => uptoBulkEntry x + uptoBulkEntries r
def uptoBulkEntry {H : Type} : Lit × DataW H → Nat
  | (.string bytes, d) => bytes.length + uptoBulk d + 1
  | (_, d) => uptoBulk d + 1
 end
def uptoSmall : (H : Type) → List (DataW H) → Bool := fun _ ds => decide (uptoBulkAll ds ≤ 1048576)
def OpenSpec.upto (s : _root_.Go.ChangeSpec) : _root_.Go.OpenSpec := { _root_.Go.OpenSpec.ofChange s with cond := some uptoSmall }

/-- 'annunciatorlaw1.NumWidth', WHERE WHAT IT READS IS OF BULK AT MOST 1048576: true; the input reads as it did. -/
def numWidthUptoRow : OpenClaim := { program := "ytaomflhkclljdaa", sum := "5e75c5fa782db88531f99651c600903938aaff1820ee16941f27abad3d628136", func := "annunciator/annunciatorlaw1.NumWidth", spec := "numWidth", apart := false, narrowed := true }
def NumWidthUptoSaid : Prop := numWidthUptoRow.holds Try.pinned (OpenSpec.upto numWidthSpec)

/-- 'annunciatorlaw1.NumParts', WHERE WHAT IT READS IS OF BULK AT MOST 1048576: true; the input reads as it did. -/
def numPartsUptoRow : OpenClaim := { program := "ytaomflhkclljdaa", sum := "5e75c5fa782db88531f99651c600903938aaff1820ee16941f27abad3d628136", func := "annunciator/annunciatorlaw1.NumParts", spec := "numParts", apart := false, narrowed := true }
def NumPartsUptoSaid : Prop := numPartsUptoRow.holds Try.pinned (OpenSpec.upto numPartsSpec)

/-- 'annunciatorlaw1.NumForms', WHERE WHAT IT READS IS OF BULK AT MOST 1048576: true; the input reads as it did. -/
def numFormsUptoRow : OpenClaim := { program := "ytaomflhkclljdaa", sum := "5e75c5fa782db88531f99651c600903938aaff1820ee16941f27abad3d628136", func := "annunciator/annunciatorlaw1.NumForms", spec := "numForms", apart := false, narrowed := true }
def NumFormsUptoSaid : Prop := numFormsUptoRow.holds Try.pinned (OpenSpec.upto numFormsSpec)

/-- 'annunciatorlaw1.NumTurn', WHERE WHAT IT READS IS OF BULK AT MOST 1048576: true; the input reads as it did. -/
def numTurnUptoRow : OpenClaim := { program := "ytaomflhkclljdaa", sum := "5e75c5fa782db88531f99651c600903938aaff1820ee16941f27abad3d628136", func := "annunciator/annunciatorlaw1.NumTurn", spec := "numTurn", apart := false, narrowed := true }
def NumTurnUptoSaid : Prop := numTurnUptoRow.holds Try.pinned (OpenSpec.upto numTurnSpec)

end Rows
end Go.Proofs.Ytaomflhkclljdaa
