/-
  No cell of these rows narrows 'for every input' (looked for: loops, veiled, ifaces, maps, wideKeys, modest, calm, conditions, laid).
  DERIVED. THE GIVEN ROWS OF THIS SEAT. 4 by the template 'for every input the law returns true; each argument reads behind the call as it read before'; 0 by the template 'total and deterministic' (their statements: YtpejhdbllphdaaaTotals.lean).
  GIVEN WITH THE SEED: the statements are not yours to turn. If you find one false, say at which input.
  Laid BY PROGRAM, IN A SANDBOX (cutbox-rows.mjs): the forced cells as the released guide's own fill.sh prints them over the translation 1b29519664c85462… (all of the seat's roots in one cut). By AI agents, Wed Nov 11 2026. No macro, syntax, notation, axiom, sorry.
-/
import Derived.Test.YtpejhdbllphdaaaChecked
import GoSem.Claim
import GoSem.ClaimJoined
import GoSem.ClaimMapViews
import Derived.JoinedTies
import Derived.KernelRfl
namespace Go.Proofs.Ytpejhdbllphdaaa
/- THE CELL 'sum', in the pinned program and in every row, IS THE sha256 OF THE DUMP (.gsa) THAT YtpejhdbllphdaaaProg.lean LOADS. Nothing in Lean hashes anything: it is a label: what it is worth is what the hold of that sum in a sandbox is worth. -/
noncomputable def Try.pinned : Pinned := { name := "ytpejhdbllphdaaa", sum := "1b29519664c85462c21eef82afc58adc2d519c00ce53897b9610ad6a2d0ab48f", checked := Try.checked }
namespace Rows
def none {H : Type} : Left H := { results := [], args := [] }

/-- 'annunciatorlaw20.MailForms': WHATEVER THE INPUT: true; the input reads as it did. -/
def mailFormsSpec : ChangeSpec := { name := "mailForms", fn := fun _ => fun
  | [] => { results := [.lit (.bool true)], args := [] }
  | _ => none }
def mailFormsRow : OpenClaim := { program := "ytpejhdbllphdaaa", sum := "1b29519664c85462c21eef82afc58adc2d519c00ce53897b9610ad6a2d0ab48f", func := "annunciator/annunciatorlaw20.MailForms", spec := "mailForms", apart := false }
def MailFormsSaid : Prop := mailFormsRow.holds Try.pinned (OpenSpec.ofChange mailFormsSpec)

/-- ITS FALSE NEIGHBOUR: 'it returns false'. Refute it at one input. -/
def mailFormsWrong : ChangeSpec := { name := "mailForms", fn := fun _ => fun
  | [] => { results := [.lit (.bool false)], args := [] }
  | _ => none }
def MailFormsWrongFalsely : Prop := mailFormsRow.holds Try.pinned (OpenSpec.ofChange mailFormsWrong)

/-- 'annunciatorlaw20.MailAll': WHATEVER THE INPUT: true; the input reads as it did. -/
def mailAllSpec : ChangeSpec := { name := "mailAll", fn := fun _ => fun
  | [d1, d2] => { results := [.lit (.bool true)], args := [d1, d2] }
  | _ => none }
def mailAllRow : OpenClaim := { program := "ytpejhdbllphdaaa", sum := "1b29519664c85462c21eef82afc58adc2d519c00ce53897b9610ad6a2d0ab48f", func := "annunciator/annunciatorlaw20.MailAll", spec := "mailAll", inPlace := ["math.Float64bits"], apart := false }
def MailAllSaid : Prop := mailAllRow.holds Try.pinned (OpenSpec.ofChange mailAllSpec)

/-- ITS FALSE NEIGHBOUR: 'it returns false'. Refute it at one input. -/
def mailAllWrong : ChangeSpec := { name := "mailAll", fn := fun _ => fun
  | [d1, d2] => { results := [.lit (.bool false)], args := [d1, d2] }
  | _ => none }
def MailAllWrongFalsely : Prop := mailAllRow.holds Try.pinned (OpenSpec.ofChange mailAllWrong)

/-- 'annunciatorlaw20.MailLast': WHATEVER THE INPUT: true; the input reads as it did. -/
def mailLastSpec : ChangeSpec := { name := "mailLast", fn := fun _ => fun
  | [d1, d2] => { results := [.lit (.bool true)], args := [d1, d2] }
  | _ => none }
def mailLastRow : OpenClaim := { program := "ytpejhdbllphdaaa", sum := "1b29519664c85462c21eef82afc58adc2d519c00ce53897b9610ad6a2d0ab48f", func := "annunciator/annunciatorlaw20.MailLast", spec := "mailLast", inPlace := ["math.Float64bits"], apart := false }
def MailLastSaid : Prop := mailLastRow.holds Try.pinned (OpenSpec.ofChange mailLastSpec)

/-- ITS FALSE NEIGHBOUR: 'it returns false'. Refute it at one input. -/
def mailLastWrong : ChangeSpec := { name := "mailLast", fn := fun _ => fun
  | [d1, d2] => { results := [.lit (.bool false)], args := [d1, d2] }
  | _ => none }
def MailLastWrongFalsely : Prop := mailLastRow.holds Try.pinned (OpenSpec.ofChange mailLastWrong)

/-- 'annunciatorlaw20.MailParts': WHATEVER THE INPUT: true; the input reads as it did. -/
def mailPartsSpec : ChangeSpec := { name := "mailParts", fn := fun _ => fun
  | [d1, d2, d3] => { results := [.lit (.bool true)], args := [d1, d2, d3] }
  | _ => none }
def mailPartsRow : OpenClaim := { program := "ytpejhdbllphdaaa", sum := "1b29519664c85462c21eef82afc58adc2d519c00ce53897b9610ad6a2d0ab48f", func := "annunciator/annunciatorlaw20.MailParts", spec := "mailParts", inPlace := ["math.Float64bits"], apart := false }
def MailPartsSaid : Prop := mailPartsRow.holds Try.pinned (OpenSpec.ofChange mailPartsSpec)

/-- ITS FALSE NEIGHBOUR: 'it returns false'. Refute it at one input. -/
def mailPartsWrong : ChangeSpec := { name := "mailParts", fn := fun _ => fun
  | [d1, d2, d3] => { results := [.lit (.bool false)], args := [d1, d2, d3] }
  | _ => none }
def MailPartsWrongFalsely : Prop := mailPartsRow.holds Try.pinned (OpenSpec.ofChange mailPartsWrong)

/- THE SECOND FORM. 'bulk': how many values and letters a reading holds, each counted each time it is reached (what is shared counts as often as it is met; a slice's spare places count too). A statement '..UptoSaid' is the law's where the arguments, and the package variables that the reading takes, are together of bulk at most 1048576: NARROWER than '..Said'. Prove '..Said' where nothing that the law and all that it calls make is longer than what came in: it says more and counts as full. Else prove '..UptoSaid'. A law counts once. -/
mutual
def uptoBulk {H : Type} : DataW H → Nat
  | .lit (.string bytes) => bytes.length + 1
  | .lit _ => 1
  | .nil => 1
  | .ptr d => uptoBulk d + 1
  | .slice elems spare => uptoBulkAll elems + uptoBulkAll spare + 1
  | .agg parts => uptoBulkAll parts + 1
  | .iface _ d => uptoBulk d + 1
  | .map entries => uptoBulkEntries entries + 1
  | .held _ => 1
def uptoBulkAll {H : Type} : List (DataW H) → Nat
  | [] => 0
  | d :: r => uptoBulk d + uptoBulkAll r
def uptoBulkEntries {H : Type} : List (Lit × DataW H) → Nat
  | [] => 0
  | x :: r => uptoBulkEntry x + uptoBulkEntries r
def uptoBulkEntry {H : Type} : Lit × DataW H → Nat
  | (.string bytes, d) => bytes.length + uptoBulk d + 1
  | (_, d) => uptoBulk d + 1
 end
def uptoSmall : (H : Type) → List (DataW H) → Bool := fun _ ds => decide (uptoBulkAll ds ≤ 1048576)
def OpenSpec.upto (s : _root_.Go.ChangeSpec) : _root_.Go.OpenSpec := { _root_.Go.OpenSpec.ofChange s with cond := some uptoSmall }

/-- 'annunciatorlaw20.MailForms', WHERE WHAT IT READS IS OF BULK AT MOST 1048576: true; the input reads as it did. -/
def mailFormsUptoRow : OpenClaim := { program := "ytpejhdbllphdaaa", sum := "1b29519664c85462c21eef82afc58adc2d519c00ce53897b9610ad6a2d0ab48f", func := "annunciator/annunciatorlaw20.MailForms", spec := "mailForms", apart := false, narrowed := true }
def MailFormsUptoSaid : Prop := mailFormsUptoRow.holds Try.pinned (OpenSpec.upto mailFormsSpec)

/-- 'annunciatorlaw20.MailAll', WHERE WHAT IT READS IS OF BULK AT MOST 1048576: true; the input reads as it did. -/
def mailAllUptoRow : OpenClaim := { program := "ytpejhdbllphdaaa", sum := "1b29519664c85462c21eef82afc58adc2d519c00ce53897b9610ad6a2d0ab48f", func := "annunciator/annunciatorlaw20.MailAll", spec := "mailAll", inPlace := ["math.Float64bits"], apart := false, narrowed := true }
def MailAllUptoSaid : Prop := mailAllUptoRow.holds Try.pinned (OpenSpec.upto mailAllSpec)

/-- 'annunciatorlaw20.MailLast', WHERE WHAT IT READS IS OF BULK AT MOST 1048576: true; the input reads as it did. -/
def mailLastUptoRow : OpenClaim := { program := "ytpejhdbllphdaaa", sum := "1b29519664c85462c21eef82afc58adc2d519c00ce53897b9610ad6a2d0ab48f", func := "annunciator/annunciatorlaw20.MailLast", spec := "mailLast", inPlace := ["math.Float64bits"], apart := false, narrowed := true }
def MailLastUptoSaid : Prop := mailLastUptoRow.holds Try.pinned (OpenSpec.upto mailLastSpec)

/-- 'annunciatorlaw20.MailParts', WHERE WHAT IT READS IS OF BULK AT MOST 1048576: true; the input reads as it did. -/
def mailPartsUptoRow : OpenClaim := { program := "ytpejhdbllphdaaa", sum := "1b29519664c85462c21eef82afc58adc2d519c00ce53897b9610ad6a2d0ab48f", func := "annunciator/annunciatorlaw20.MailParts", spec := "mailParts", inPlace := ["math.Float64bits"], apart := false, narrowed := true }
def MailPartsUptoSaid : Prop := mailPartsUptoRow.holds Try.pinned (OpenSpec.upto mailPartsSpec)

end Rows
end Go.Proofs.Ytpejhdbllphdaaa
