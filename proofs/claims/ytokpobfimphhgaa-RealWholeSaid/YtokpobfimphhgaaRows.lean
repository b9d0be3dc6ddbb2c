/-
  No cell of these rows narrows 'for every input' (looked for: loops, veiled, ifaces, maps, wideKeys, modest, calm, conditions, laid).
  DERIVED. THE GIVEN ROWS OF THIS SEAT. 6 by the template 'for every input the law returns true; each argument reads behind the call as it read before'; 0 by the template 'total and deterministic' (their statements: YtokpobfimphhgaaTotals.lean).
  GIVEN WITH THE SEED: the statements are not yours to turn. If you find one false, say at which input.
  Laid BY PROGRAM, IN A SANDBOX (cutbox-rows.mjs): the forced cells as the released guide's own fill.sh prints them over the translation 4aef8fcbc95d84e5… (all of the seat's roots in one cut). By AI agents, Wed Nov 11 2026. No macro, syntax, notation, axiom, sorry.
-/
import Derived.Test.YtokpobfimphhgaaChecked
import GoSem.Claim
import GoSem.ClaimJoined
import GoSem.ClaimMapViews
import Derived.JoinedTies
import Derived.KernelRfl
namespace Go.Proofs.Ytokpobfimphhgaa
/- THE CELL 'sum', in the pinned program and in every row, IS THE sha256 OF THE DUMP (.gsa) THAT YtokpobfimphhgaaProg.lean LOADS. Nothing in Lean hashes anything: it is a label: what it is worth is what the hold of that sum in a sandbox is worth. -/
noncomputable def Try.pinned : Pinned := { name := "ytokpobfimphhgaa", sum := "4aef8fcbc95d84e5024a0c2f855a4c707e1c0e2fc2be15ec58a7c296a9752db6", checked := Try.checked }
namespace Rows
def none {H : Type} : Left H := { results := [], args := [] }

/-- 'annunciatorlaw2.RealAll': WHATEVER THE INPUT: true; the input reads as it did. -/
def realAllSpec : ChangeSpec := { name := "realAll", fn := fun _ => fun
  | [d1, d2, d3, d4] => { results := [.lit (.bool true)], args := [d1, d2, d3, d4] }
  | _ => none }
def realAllRow : OpenClaim := { program := "ytokpobfimphhgaa", sum := "4aef8fcbc95d84e5024a0c2f855a4c707e1c0e2fc2be15ec58a7c296a9752db6", func := "annunciator/annunciatorlaw2.RealAll", spec := "realAll", inPlace := ["math.archTrunc", "math.Float64bits", "math.Float64frombits"], apart := false }
def RealAllSaid : Prop := realAllRow.holds Try.pinned (OpenSpec.ofChange realAllSpec)

/-- ITS FALSE NEIGHBOUR: 'it returns false'. Refute it at one input. -/
def realAllWrong : ChangeSpec := { name := "realAll", fn := fun _ => fun
  | [d1, d2, d3, d4] => { results := [.lit (.bool false)], args := [d1, d2, d3, d4] }
  | _ => none }
def RealAllWrongFalsely : Prop := realAllRow.holds Try.pinned (OpenSpec.ofChange realAllWrong)

/-- 'annunciatorlaw2.RealBits': WHATEVER THE INPUT: true; the input reads as it did. -/
def realBitsSpec : ChangeSpec := { name := "realBits", fn := fun _ => fun
  | [d] => { results := [.lit (.bool true)], args := [d] }
  | _ => none }
def realBitsRow : OpenClaim := { program := "ytokpobfimphhgaa", sum := "4aef8fcbc95d84e5024a0c2f855a4c707e1c0e2fc2be15ec58a7c296a9752db6", func := "annunciator/annunciatorlaw2.RealBits", spec := "realBits", inPlace := ["math.archTrunc", "math.Float64bits", "math.Float64frombits"], apart := false }
def RealBitsSaid : Prop := realBitsRow.holds Try.pinned (OpenSpec.ofChange realBitsSpec)

/-- ITS FALSE NEIGHBOUR: 'it returns false'. Refute it at one input. -/
def realBitsWrong : ChangeSpec := { name := "realBits", fn := fun _ => fun
  | [d] => { results := [.lit (.bool false)], args := [d] }
  | _ => none }
def RealBitsWrongFalsely : Prop := realBitsRow.holds Try.pinned (OpenSpec.ofChange realBitsWrong)

/-- 'annunciatorlaw2.RealWhole': WHATEVER THE INPUT: true; the input reads as it did. -/
def realWholeSpec : ChangeSpec := { name := "realWhole", fn := fun _ => fun
  | [d1, d2] => { results := [.lit (.bool true)], args := [d1, d2] }
  | _ => none }
def realWholeRow : OpenClaim := { program := "ytokpobfimphhgaa", sum := "4aef8fcbc95d84e5024a0c2f855a4c707e1c0e2fc2be15ec58a7c296a9752db6", func := "annunciator/annunciatorlaw2.RealWhole", spec := "realWhole", inPlace := ["math.archTrunc", "math.Float64bits", "math.Float64frombits"], apart := false }
def RealWholeSaid : Prop := realWholeRow.holds Try.pinned (OpenSpec.ofChange realWholeSpec)

/-- ITS FALSE NEIGHBOUR: 'it returns false'. Refute it at one input. -/
def realWholeWrong : ChangeSpec := { name := "realWhole", fn := fun _ => fun
  | [d1, d2] => { results := [.lit (.bool false)], args := [d1, d2] }
  | _ => none }
def RealWholeWrongFalsely : Prop := realWholeRow.holds Try.pinned (OpenSpec.ofChange realWholeWrong)

/-- 'annunciatorlaw2.RealForms': WHATEVER THE INPUT: true; the input reads as it did. -/
def realFormsSpec : ChangeSpec := { name := "realForms", fn := fun _ => fun
  | [] => { results := [.lit (.bool true)], args := [] }
  | _ => none }
def realFormsRow : OpenClaim := { program := "ytokpobfimphhgaa", sum := "4aef8fcbc95d84e5024a0c2f855a4c707e1c0e2fc2be15ec58a7c296a9752db6", func := "annunciator/annunciatorlaw2.RealForms", spec := "realForms", inPlace := ["math.archTrunc", "math.Float64bits", "math.Float64frombits"], apart := false }
def RealFormsSaid : Prop := realFormsRow.holds Try.pinned (OpenSpec.ofChange realFormsSpec)

/-- ITS FALSE NEIGHBOUR: 'it returns false'. Refute it at one input. -/
def realFormsWrong : ChangeSpec := { name := "realForms", fn := fun _ => fun
  | [] => { results := [.lit (.bool false)], args := [] }
  | _ => none }
def RealFormsWrongFalsely : Prop := realFormsRow.holds Try.pinned (OpenSpec.ofChange realFormsWrong)

/-- 'annunciatorlaw2.RealTurn': WHATEVER THE INPUT: true; the input reads as it did. -/
def realTurnSpec : ChangeSpec := { name := "realTurn", fn := fun _ => fun
  | [d1, d2] => { results := [.lit (.bool true)], args := [d1, d2] }
  | _ => none }
def realTurnRow : OpenClaim := { program := "ytokpobfimphhgaa", sum := "4aef8fcbc95d84e5024a0c2f855a4c707e1c0e2fc2be15ec58a7c296a9752db6", func := "annunciator/annunciatorlaw2.RealTurn", spec := "realTurn", inPlace := ["math.archTrunc", "math.Float64bits", "math.Float64frombits"], apart := false }
def RealTurnSaid : Prop := realTurnRow.holds Try.pinned (OpenSpec.ofChange realTurnSpec)

/-- ITS FALSE NEIGHBOUR: 'it returns false'. Refute it at one input. -/
def realTurnWrong : ChangeSpec := { name := "realTurn", fn := fun _ => fun
  | [d1, d2] => { results := [.lit (.bool false)], args := [d1, d2] }
  | _ => none }
def RealTurnWrongFalsely : Prop := realTurnRow.holds Try.pinned (OpenSpec.ofChange realTurnWrong)

/-- 'annunciatorlaw2.RealOrder': WHATEVER THE INPUT: true; the input reads as it did. -/
def realOrderSpec : ChangeSpec := { name := "realOrder", fn := fun _ => fun
  | [d1, d2] => { results := [.lit (.bool true)], args := [d1, d2] }
  | _ => none }
def realOrderRow : OpenClaim := { program := "ytokpobfimphhgaa", sum := "4aef8fcbc95d84e5024a0c2f855a4c707e1c0e2fc2be15ec58a7c296a9752db6", func := "annunciator/annunciatorlaw2.RealOrder", spec := "realOrder", inPlace := ["math.archTrunc", "math.Float64bits", "math.Float64frombits"], apart := false }
def RealOrderSaid : Prop := realOrderRow.holds Try.pinned (OpenSpec.ofChange realOrderSpec)

/-- ITS FALSE NEIGHBOUR: 'it returns false'. Refute it at one input. -/
def realOrderWrong : ChangeSpec := { name := "realOrder", fn := fun _ => fun
  | [d1, d2] => { results := [.lit (.bool false)], args := [d1, d2] }
  | _ => none }
def RealOrderWrongFalsely : Prop := realOrderRow.holds Try.pinned (OpenSpec.ofChange realOrderWrong)

/- THE SECOND FORM. 'bulk': how many values and letters a reading holds, each counted each time it is reached (what is shared counts as often as it is met; a slice's spare places count too). A statement '..UptoSaid' is the law's where the arguments, and the package variables that the reading takes, are together of bulk at most 1048576: NARROWER than '..Said'. Prove '..Said' where nothing that the law and all that it calls make is longer than what came in: it says more and counts as full. Else prove '..UptoSaid'. A law counts once. -/
mutual
def uptoBulk {H : Type} : DataW H → Nat
  | .lit (.string bytes) => bytes.length + 1
  | .lit _ => 1
  | .nil => 1
  | .ptr d => uptoBulk d + 1
  | .slice elems spare => uptoBulkAll elems + uptoBulkAll spare + 1
  | .agg parts => uptoBulkAll parts + 1
  | .iface _ d => uptoBulk d + 1
  | .map entries => uptoBulkEntries entries + 1
  | .held _ => 1
def uptoBulkAll {H : Type} : List (DataW H) → Nat
  | [] => 0
  | d :: r => uptoBulk d + uptoBulkAll r
def uptoBulkEntries {H : Type} : List (Lit × DataW H) → Nat
  | [] => 0
  | x :: r => uptoBulkEntry x + uptoBulkEntries r
def uptoBulkEntry {H : Type} : Lit × DataW H → Nat
  | (.string bytes, d) => bytes.length + uptoBulk d + 1
  | (_, d) => uptoBulk d + 1
 end
def uptoSmall : (H : Type) → List (DataW H) → Bool := fun _ ds => decide (uptoBulkAll ds ≤ 1048576)
def OpenSpec.upto (s : _root_.Go.ChangeSpec) : _root_.Go.OpenSpec := { _root_.Go.OpenSpec.ofChange s with cond := some uptoSmall }

/-- 'annunciatorlaw2.RealAll', WHERE WHAT IT READS IS OF BULK AT MOST 1048576: true; the input reads as it did. -/
def realAllUptoRow : OpenClaim := { program := "ytokpobfimphhgaa", sum := "4aef8fcbc95d84e5024a0c2f855a4c707e1c0e2fc2be15ec58a7c296a9752db6", func := "annunciator/annunciatorlaw2.RealAll", spec := "realAll", inPlace := ["math.archTrunc", "math.Float64bits", "math.Float64frombits"], apart := false, narrowed := true }
def RealAllUptoSaid : Prop := realAllUptoRow.holds Try.pinned (OpenSpec.upto realAllSpec)

/-- 'annunciatorlaw2.RealBits', WHERE WHAT IT READS IS OF BULK AT MOST 1048576: true; the input reads as it did. -/
def realBitsUptoRow : OpenClaim := { program := "ytokpobfimphhgaa", sum := "4aef8fcbc95d84e5024a0c2f855a4c707e1c0e2fc2be15ec58a7c296a9752db6", func := "annunciator/annunciatorlaw2.RealBits", spec := "realBits", inPlace := ["math.archTrunc", "math.Float64bits", "math.Float64frombits"], apart := false, narrowed := true }
def RealBitsUptoSaid : Prop := realBitsUptoRow.holds Try.pinned (OpenSpec.upto realBitsSpec)

/-- 'annunciatorlaw2.RealWhole', WHERE WHAT IT READS IS OF BULK AT MOST 1048576: true; the input reads as it did. -/
def realWholeUptoRow : OpenClaim := { program := "ytokpobfimphhgaa", sum := "4aef8fcbc95d84e5024a0c2f855a4c707e1c0e2fc2be15ec58a7c296a9752db6", func := "annunciator/annunciatorlaw2.RealWhole", spec := "realWhole", inPlace := ["math.archTrunc", "math.Float64bits", "math.Float64frombits"], apart := false, narrowed := true }
def RealWholeUptoSaid : Prop := realWholeUptoRow.holds Try.pinned (OpenSpec.upto realWholeSpec)

/-- 'annunciatorlaw2.RealForms', WHERE WHAT IT READS IS OF BULK AT MOST 1048576: true; the input reads as it did. -/
def realFormsUptoRow : OpenClaim := { program := "ytokpobfimphhgaa", sum := "4aef8fcbc95d84e5024a0c2f855a4c707e1c0e2fc2be15ec58a7c296a9752db6", func := "annunciator/annunciatorlaw2.RealForms", spec := "realForms", inPlace := ["math.archTrunc", "math.Float64bits", "math.Float64frombits"], apart := false, narrowed := true }
def RealFormsUptoSaid : Prop := realFormsUptoRow.holds Try.pinned (OpenSpec.upto realFormsSpec)

/-- 'annunciatorlaw2.RealTurn', WHERE WHAT IT READS IS OF BULK AT MOST 1048576: true; the input reads as it did. -/
def realTurnUptoRow : OpenClaim := { program := "ytokpobfimphhgaa", sum := "4aef8fcbc95d84e5024a0c2f855a4c707e1c0e2fc2be15ec58a7c296a9752db6", func := "annunciator/annunciatorlaw2.RealTurn", spec := "realTurn", inPlace := ["math.archTrunc", "math.Float64bits", "math.Float64frombits"], apart := false, narrowed := true }
def RealTurnUptoSaid : Prop := realTurnUptoRow.holds Try.pinned (OpenSpec.upto realTurnSpec)

/-- 'annunciatorlaw2.RealOrder', WHERE WHAT IT READS IS OF BULK AT MOST 1048576: true; the input reads as it did. -/
def realOrderUptoRow : OpenClaim := { program := "ytokpobfimphhgaa", sum := "4aef8fcbc95d84e5024a0c2f855a4c707e1c0e2fc2be15ec58a7c296a9752db6", func := "annunciator/annunciatorlaw2.RealOrder", spec := "realOrder", inPlace := ["math.archTrunc", "math.Float64bits", "math.Float64frombits"], apart := false, narrowed := true }
def RealOrderUptoSaid : Prop := realOrderUptoRow.holds Try.pinned (OpenSpec.upto realOrderSpec)

end Rows
end Go.Proofs.Ytokpobfimphhgaa
