/-
  No cell of these rows narrows 'for every input' (looked for: loops, veiled, ifaces, maps, wideKeys, modest, calm, conditions, laid).
  DERIVED. THE GIVEN ROWS OF THIS SEAT. 4 by the template 'for every input the law returns true; each argument reads behind the call as it read before'; 0 by the template 'total and deterministic' (their statements: YtncndnlbiijdoaaTotals.lean).
  GIVEN WITH THE SEED: the statements are not yours to turn. If you find one false, say at which input.
  Laid BY PROGRAM, IN A SANDBOX (cutbox-rows.mjs): the forced cells as the released guide's own fill.sh prints them over the translation 4293f72e7f1e88a7… (all of the seat's roots in one cut). By AI agents, Wed Nov 11 2026. No macro, syntax, notation, axiom, sorry.
-/
import Derived.Test.YtncndnlbiijdoaaChecked
import GoSem.Claim
import GoSem.ClaimJoined
import GoSem.ClaimMapViews
import Derived.JoinedTies
import Derived.KernelRfl
namespace Go.Proofs.Ytncndnlbiijdoaa
/- THE CELL 'sum', in the pinned program and in every row, IS THE sha256 OF THE DUMP (.gsa) THAT YtncndnlbiijdoaaProg.lean LOADS. Nothing in Lean hashes anything: it is a label: what it is worth is what the hold of that sum in a sandbox is worth. -/
noncomputable def Try.pinned : Pinned := { name := "ytncndnlbiijdoaa", sum := "4293f72e7f1e88a7dec35e2f6e4b9af83656e33db64e485f6f464cab54fbfeb9", checked := Try.checked }
namespace Rows
def none {H : Type} : Left H := { results := [], args := [] }

/-- 'annunciatorlaw11.InstAll': WHATEVER THE INPUT: true; the input reads as it did. -/
def instAllSpec : ChangeSpec := { name := "instAll", fn := fun _ => fun
  | [d1, d2] => { results := [.lit (.bool true)], args := [d1, d2] }
  | _ => none }
def instAllRow : OpenClaim := { program := "ytncndnlbiijdoaa", sum := "4293f72e7f1e88a7dec35e2f6e4b9af83656e33db64e485f6f464cab54fbfeb9", func := "annunciator/annunciatorlaw11.InstAll", spec := "instAll", inPlace := ["math.Float64bits", "math.Float64frombits"], unfollowed := true, recurses := true, apart := false }
def InstAllSaid : Prop := instAllRow.holds Try.pinned (OpenSpec.ofChange instAllSpec)

/-- ITS FALSE NEIGHBOUR: 'it returns false'. Refute it at one input. -/
def instAllWrong : ChangeSpec := { name := "instAll", fn := fun _ => fun
  | [d1, d2] => { results := [.lit (.bool false)], args := [d1, d2] }
  | _ => none }
def InstAllWrongFalsely : Prop := instAllRow.holds Try.pinned (OpenSpec.ofChange instAllWrong)

/-- 'annunciatorlaw11.InstBack': WHATEVER THE INPUT: true; the input reads as it did. -/
def instBackSpec : ChangeSpec := { name := "instBack", fn := fun _ => fun
  | [d1, d2, d3] => { results := [.lit (.bool true)], args := [d1, d2, d3] }
  | _ => none }
def instBackRow : OpenClaim := { program := "ytncndnlbiijdoaa", sum := "4293f72e7f1e88a7dec35e2f6e4b9af83656e33db64e485f6f464cab54fbfeb9", func := "annunciator/annunciatorlaw11.InstBack", spec := "instBack", inPlace := ["math.Float64bits", "math.Float64frombits"], unfollowed := true, recurses := true, apart := false }
def InstBackSaid : Prop := instBackRow.holds Try.pinned (OpenSpec.ofChange instBackSpec)

/-- ITS FALSE NEIGHBOUR: 'it returns false'. Refute it at one input. -/
def instBackWrong : ChangeSpec := { name := "instBack", fn := fun _ => fun
  | [d1, d2, d3] => { results := [.lit (.bool false)], args := [d1, d2, d3] }
  | _ => none }
def InstBackWrongFalsely : Prop := instBackRow.holds Try.pinned (OpenSpec.ofChange instBackWrong)

/-- 'annunciatorlaw11.InstForms': WHATEVER THE INPUT: true; the input reads as it did. -/
def instFormsSpec : ChangeSpec := { name := "instForms", fn := fun _ => fun
  | [] => { results := [.lit (.bool true)], args := [] }
  | _ => none }
def instFormsRow : OpenClaim := { program := "ytncndnlbiijdoaa", sum := "4293f72e7f1e88a7dec35e2f6e4b9af83656e33db64e485f6f464cab54fbfeb9", func := "annunciator/annunciatorlaw11.InstForms", spec := "instForms", inPlace := ["math.Float64bits", "math.Float64frombits"], unfollowed := true, recurses := true, apart := false }
def InstFormsSaid : Prop := instFormsRow.holds Try.pinned (OpenSpec.ofChange instFormsSpec)

/-- ITS FALSE NEIGHBOUR: 'it returns false'. Refute it at one input. -/
def instFormsWrong : ChangeSpec := { name := "instForms", fn := fun _ => fun
  | [] => { results := [.lit (.bool false)], args := [] }
  | _ => none }
def InstFormsWrongFalsely : Prop := instFormsRow.holds Try.pinned (OpenSpec.ofChange instFormsWrong)

/-- 'annunciatorlaw11.InstApart': WHATEVER THE INPUT: true; the input reads as it did. -/
def instApartSpec : ChangeSpec := { name := "instApart", fn := fun _ => fun
  | [d1, d2] => { results := [.lit (.bool true)], args := [d1, d2] }
  | _ => none }
def instApartRow : OpenClaim := { program := "ytncndnlbiijdoaa", sum := "4293f72e7f1e88a7dec35e2f6e4b9af83656e33db64e485f6f464cab54fbfeb9", func := "annunciator/annunciatorlaw11.InstApart", spec := "instApart", inPlace := ["math.Float64bits", "math.Float64frombits"], unfollowed := true, recurses := true, apart := false }
def InstApartSaid : Prop := instApartRow.holds Try.pinned (OpenSpec.ofChange instApartSpec)

/-- ITS FALSE NEIGHBOUR: 'it returns false'. Refute it at one input. -/
def instApartWrong : ChangeSpec := { name := "instApart", fn := fun _ => fun
  | [d1, d2] => { results := [.lit (.bool false)], args := [d1, d2] }
  | _ => none }
def InstApartWrongFalsely : Prop := instApartRow.holds Try.pinned (OpenSpec.ofChange instApartWrong)

/- THE SECOND FORM. 'bulk': how many values and letters a reading holds, each counted each time it is reached (what is shared counts as often as it is met; a slice's spare places count too). A statement '..UptoSaid' is the law's where the arguments, and the package variables that the reading takes, are together of bulk at most 1048576: NARROWER than '..Said'. Prove '..Said' where nothing that the law and all that it calls make is longer than what came in: it says more and counts as full. Else prove '..UptoSaid'. A law counts once. -/
mutual
def uptoBulk {H : Type} : DataW H → Nat
  | .lit (.string bytes) => bytes.length + 1
  | .lit _ => 1
  | .nil => 1
  | .ptr d => uptoBulk d + 1
  | .slice elems spare => uptoBulkAll elems + uptoBulkAll spare + 1
  | .agg parts => uptoBulkAll parts + 1
  | .iface _ d => uptoBulk d + 1
  | .map entries => uptoBulkEntries entries + 1
  | .held _ => 1
def uptoBulkAll {H : Type} : List (DataW H) → Nat
  | [] => 0
  | d :: r => uptoBulk d + uptoBulkAll r
def uptoBulkEntries {H : Type} : List (Lit × DataW H) → Nat
  | [] => 0
  | x :: r => uptoBulkEntry x + uptoBulkEntries r
def uptoBulkEntry {H : Type} : Lit × DataW H → Nat
  | (.string bytes, d) => bytes.length + uptoBulk d + 1
  | (_, d) => uptoBulk d + 1
 end
def uptoSmall : (H : Type) → List (DataW H) → Bool := fun _ ds => decide (uptoBulkAll ds ≤ 1048576)
def OpenSpec.upto (s : _root_.Go.ChangeSpec) : _root_.Go.OpenSpec := { _root_.Go.OpenSpec.ofChange s with cond := some uptoSmall }

/-- 'annunciatorlaw11.InstAll', WHERE WHAT IT READS IS OF BULK AT MOST 1048576: true; the input reads as it did. -/
def instAllUptoRow : OpenClaim := { program := "ytncndnlbiijdoaa", sum := "4293f72e7f1e88a7dec35e2f6e4b9af83656e33db64e485f6f464cab54fbfeb9", func := "annunciator/annunciatorlaw11.InstAll", spec := "instAll", inPlace := ["math.Float64bits", "math.Float64frombits"], unfollowed := true, recurses := true, apart := false, narrowed := true }
def InstAllUptoSaid : Prop := instAllUptoRow.holds Try.pinned (OpenSpec.upto instAllSpec)

/-- 'annunciatorlaw11.InstBack', WHERE WHAT IT READS IS OF BULK AT MOST 1048576: true; the input reads as it did. -/
def instBackUptoRow : OpenClaim := { program := "ytncndnlbiijdoaa", sum := "4293f72e7f1e88a7dec35e2f6e4b9af83656e33db64e485f6f464cab54fbfeb9", func := "annunciator/annunciatorlaw11.InstBack", spec := "instBack", inPlace := ["math.Float64bits", "math.Float64frombits"], unfollowed := true, recurses := true, apart := false, narrowed := true }
def InstBackUptoSaid : Prop := instBackUptoRow.holds Try.pinned (OpenSpec.upto instBackSpec)

/-- 'annunciatorlaw11.InstForms', WHERE WHAT IT READS IS OF BULK AT MOST 1048576: true; the input reads as it did. -/
def instFormsUptoRow : OpenClaim := { program := "ytncndnlbiijdoaa", sum := "4293f72e7f1e88a7dec35e2f6e4b9af83656e33db64e485f6f464cab54fbfeb9", func := "annunciator/annunciatorlaw11.InstForms", spec := "instForms", inPlace := ["math.Float64bits", "math.Float64frombits"], unfollowed := true, recurses := true, apart := false, narrowed := true }
def InstFormsUptoSaid : Prop := instFormsUptoRow.holds Try.pinned (OpenSpec.upto instFormsSpec)

/-- 'annunciatorlaw11.InstApart', WHERE WHAT IT READS IS OF BULK AT MOST 1048576: true; the input reads as it did. -/
def instApartUptoRow : OpenClaim := { program := "ytncndnlbiijdoaa", sum := "4293f72e7f1e88a7dec35e2f6e4b9af83656e33db64e485f6f464cab54fbfeb9", func := "annunciator/annunciatorlaw11.InstApart", spec := "instApart", inPlace := ["math.Float64bits", "math.Float64frombits"], unfollowed := true, recurses := true, apart := false, narrowed := true }
def InstApartUptoSaid : Prop := instApartUptoRow.holds Try.pinned (OpenSpec.upto instApartSpec)

end Rows
end Go.Proofs.Ytncndnlbiijdoaa
