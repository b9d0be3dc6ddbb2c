/-
  No cell of these rows narrows 'for every input' (looked for: loops, veiled, ifaces, maps, wideKeys, modest, calm, conditions, laid).
  DERIVED. THE GIVEN ROWS OF THIS SEAT. 4 by the template 'for every input the law returns true; each argument reads behind the call as it read before'; 0 by the template 'total and deterministic' (their statements: YtlbccgoheiaheaaTotals.lean).
  GIVEN WITH THE SEED: the statements are not yours to turn. If you find one false, say at which input.
  Laid BY PROGRAM, IN A SANDBOX (cutbox-rows.mjs): the forced cells as the released guide's own fill.sh prints them over the translation 73b76668e6dc2421… (all of the seat's roots in one cut). By AI agents, Wed Nov 11 2026. No macro, syntax, notation, axiom, sorry.
-/
import Derived.Test.YtlbccgoheiaheaaChecked
import GoSem.Claim
import GoSem.ClaimJoined
import GoSem.ClaimMapViews
import Derived.JoinedTies
import Derived.KernelRfl
namespace Go.Proofs.Ytlbccgoheiaheaa
/- THE CELL 'sum', in the pinned program and in every row, IS THE sha256 OF THE DUMP (.gsa) THAT YtlbccgoheiaheaaProg.lean LOADS. Nothing in Lean hashes anything: it is a label: what it is worth is what the hold of that sum in a sandbox is worth. -/
noncomputable def Try.pinned : Pinned := { name := "ytlbccgoheiaheaa", sum := "73b76668e6dc2421afbf7194519804acd77763d52406be59ba2945ed27f1c58e", checked := Try.checked }
namespace Rows
def none {H : Type} : Left H := { results := [], args := [] }

/-- 'annunciatorlaw21.SubsRise': WHATEVER THE INPUT: true; the input reads as it did. -/
def subsRiseSpec : ChangeSpec := { name := "subsRise", fn := fun _ => fun
  | [d1, d2, d3, d4] => { results := [.lit (.bool true)], args := [d1, d2, d3, d4] }
  | _ => none }
def subsRiseRow : OpenClaim := { program := "ytlbccgoheiaheaa", sum := "73b76668e6dc2421afbf7194519804acd77763d52406be59ba2945ed27f1c58e", func := "annunciator/annunciatorlaw21.SubsRise", spec := "subsRise", apart := false }
def SubsRiseSaid : Prop := subsRiseRow.holds Try.pinned (OpenSpec.ofChange subsRiseSpec)

/-- ITS FALSE NEIGHBOUR: 'it returns false'. Refute it at one input. -/
def subsRiseWrong : ChangeSpec := { name := "subsRise", fn := fun _ => fun
  | [d1, d2, d3, d4] => { results := [.lit (.bool false)], args := [d1, d2, d3, d4] }
  | _ => none }
def SubsRiseWrongFalsely : Prop := subsRiseRow.holds Try.pinned (OpenSpec.ofChange subsRiseWrong)

/-- 'annunciatorlaw21.SubsDue': WHATEVER THE INPUT: true; the input reads as it did. -/
def subsDueSpec : ChangeSpec := { name := "subsDue", fn := fun _ => fun
  | [d1, d2] => { results := [.lit (.bool true)], args := [d1, d2] }
  | _ => none }
def subsDueRow : OpenClaim := { program := "ytlbccgoheiaheaa", sum := "73b76668e6dc2421afbf7194519804acd77763d52406be59ba2945ed27f1c58e", func := "annunciator/annunciatorlaw21.SubsDue", spec := "subsDue", apart := false }
def SubsDueSaid : Prop := subsDueRow.holds Try.pinned (OpenSpec.ofChange subsDueSpec)

/-- ITS FALSE NEIGHBOUR: 'it returns false'. Refute it at one input. -/
def subsDueWrong : ChangeSpec := { name := "subsDue", fn := fun _ => fun
  | [d1, d2] => { results := [.lit (.bool false)], args := [d1, d2] }
  | _ => none }
def SubsDueWrongFalsely : Prop := subsDueRow.holds Try.pinned (OpenSpec.ofChange subsDueWrong)

/-- 'annunciatorlaw21.SubsForms': WHATEVER THE INPUT: true; the input reads as it did. -/
def subsFormsSpec : ChangeSpec := { name := "subsForms", fn := fun _ => fun
  | [] => { results := [.lit (.bool true)], args := [] }
  | _ => none }
def subsFormsRow : OpenClaim := { program := "ytlbccgoheiaheaa", sum := "73b76668e6dc2421afbf7194519804acd77763d52406be59ba2945ed27f1c58e", func := "annunciator/annunciatorlaw21.SubsForms", spec := "subsForms", apart := false }
def SubsFormsSaid : Prop := subsFormsRow.holds Try.pinned (OpenSpec.ofChange subsFormsSpec)

/-- ITS FALSE NEIGHBOUR: 'it returns false'. Refute it at one input. -/
def subsFormsWrong : ChangeSpec := { name := "subsForms", fn := fun _ => fun
  | [] => { results := [.lit (.bool false)], args := [] }
  | _ => none }
def SubsFormsWrongFalsely : Prop := subsFormsRow.holds Try.pinned (OpenSpec.ofChange subsFormsWrong)

/-- 'annunciatorlaw21.SubsLost': WHATEVER THE INPUT: true; the input reads as it did. -/
def subsLostSpec : ChangeSpec := { name := "subsLost", fn := fun _ => fun
  | [d1, d2] => { results := [.lit (.bool true)], args := [d1, d2] }
  | _ => none }
def subsLostRow : OpenClaim := { program := "ytlbccgoheiaheaa", sum := "73b76668e6dc2421afbf7194519804acd77763d52406be59ba2945ed27f1c58e", func := "annunciator/annunciatorlaw21.SubsLost", spec := "subsLost", apart := false }
def SubsLostSaid : Prop := subsLostRow.holds Try.pinned (OpenSpec.ofChange subsLostSpec)

/-- ITS FALSE NEIGHBOUR: 'it returns false'. Refute it at one input. -/
def subsLostWrong : ChangeSpec := { name := "subsLost", fn := fun _ => fun
  | [d1, d2] => { results := [.lit (.bool false)], args := [d1, d2] }
  | _ => none }
def SubsLostWrongFalsely : Prop := subsLostRow.holds Try.pinned (OpenSpec.ofChange subsLostWrong)

/- THE SECOND FORM. 'bulk': how many values and letters a reading holds, each counted each time it is reached (what is shared counts as often as it is met; a slice's spare places count too). A statement '..UptoSaid' is the law's where the arguments, and the package variables that the reading takes, are together of bulk at most 1048576: NARROWER than '..Said'. Prove '..Said' where nothing that the law and all that it calls make is longer than what came in: it says more and counts as full. Else prove '..UptoSaid'. A law counts once. -/
mutual
def uptoBulk {H : Type} : DataW H → Nat
  | .lit (.string bytes) => bytes.length + 1
  | .lit _ => 1
  | .nil => 1
  | .ptr d => uptoBulk d + 1
  | .slice elems spare => uptoBulkAll elems + uptoBulkAll spare + 1
  | .agg parts => uptoBulkAll parts + 1
  | .iface _ d => uptoBulk d + 1
  | .map entries => uptoBulkEntries entries + 1
  | .held _ => 1
def uptoBulkAll {H : Type} : List (DataW H) → Nat
  | [] => 0
  | d :: r => uptoBulk d + uptoBulkAll r
def uptoBulkEntries {H : Type} : List (Lit × DataW H) → Nat
  | [] => 0
  | x :: r => uptoBulkEntry x + uptoBulkEntries r
def uptoBulkEntry {H : Type} : Lit × DataW H → Nat
  | (.string bytes, d) => bytes.length + uptoBulk d + 1
  | (_, d) => uptoBulk d + 1
 end
def uptoSmall : (H : Type) → List (DataW H) → Bool := fun _ ds => decide (uptoBulkAll ds ≤ 1048576)
def OpenSpec.upto (s : _root_.Go.ChangeSpec) : _root_.Go.OpenSpec := { _root_.Go.OpenSpec.ofChange s with cond := some uptoSmall }

/-- 'annunciatorlaw21.SubsRise', WHERE WHAT IT READS IS OF BULK AT MOST 1048576: true; the input reads as it did. -/
def subsRiseUptoRow : OpenClaim := { program := "ytlbccgoheiaheaa", sum := "73b76668e6dc2421afbf7194519804acd77763d52406be59ba2945ed27f1c58e", func := "annunciator/annunciatorlaw21.SubsRise", spec := "subsRise", apart := false, narrowed := true }
def SubsRiseUptoSaid : Prop := subsRiseUptoRow.holds Try.pinned (OpenSpec.upto subsRiseSpec)

/-- 'annunciatorlaw21.SubsDue', WHERE WHAT IT READS IS OF BULK AT MOST 1048576: true; the input reads as it did. -/
def subsDueUptoRow : OpenClaim := { program := "ytlbccgoheiaheaa", sum := "73b76668e6dc2421afbf7194519804acd77763d52406be59ba2945ed27f1c58e", func := "annunciator/annunciatorlaw21.SubsDue", spec := "subsDue", apart := false, narrowed := true }
def SubsDueUptoSaid : Prop := subsDueUptoRow.holds Try.pinned (OpenSpec.upto subsDueSpec)

/-- 'annunciatorlaw21.SubsForms', WHERE WHAT IT READS IS OF BULK AT MOST 1048576: true; the input reads as it did. -/
def subsFormsUptoRow : OpenClaim := { program := "ytlbccgoheiaheaa", sum := "73b76668e6dc2421afbf7194519804acd77763d52406be59ba2945ed27f1c58e", func := "annunciator/annunciatorlaw21.SubsForms", spec := "subsForms", apart := false, narrowed := true }
def SubsFormsUptoSaid : Prop := subsFormsUptoRow.holds Try.pinned (OpenSpec.upto subsFormsSpec)

/-- 'annunciatorlaw21.SubsLost', WHERE WHAT IT READS IS OF BULK AT MOST 1048576: true; the input reads as it did. -/
def subsLostUptoRow : OpenClaim := { program := "ytlbccgoheiaheaa", sum := "73b76668e6dc2421afbf7194519804acd77763d52406be59ba2945ed27f1c58e", func := "annunciator/annunciatorlaw21.SubsLost", spec := "subsLost", apart := false, narrowed := true }
def SubsLostUptoSaid : Prop := subsLostUptoRow.holds Try.pinned (OpenSpec.upto subsLostSpec)

end Rows
end Go.Proofs.Ytlbccgoheiaheaa
