/-
  No cell of these rows narrows 'for every input' (looked for: loops, veiled, ifaces, maps, wideKeys, modest, calm, conditions, laid).
  DERIVED. THE GIVEN ROWS OF THIS SEAT. 4 by the template 'for every input the law returns true; each argument reads behind the call as it read before'; 0 by the template 'total and deterministic' (their statements: YtdmagcdkklacdaaTotals.lean).
  GIVEN WITH THE SEED: the statements are not yours to turn. If you find one false, say at which input.
  Laid BY PROGRAM, IN A SANDBOX (cutbox-rows.mjs): the forced cells as the released guide's own fill.sh prints them over the translation 1dab00f294e18dd4… (all of the seat's roots in one cut). By AI agents, Wed Nov 11 2026. No macro, syntax, notation, axiom, sorry.
-/
import Derived.Test.YtdmagcdkklacdaaChecked
import GoSem.Claim
import GoSem.ClaimJoined
import GoSem.ClaimMapViews
import Derived.JoinedTies
import Derived.KernelRfl
namespace Go.Proofs.Ytdmagcdkklacdaa
/- THE CELL 'sum', in the pinned program and in every row, IS THE sha256 OF THE DUMP (.gsa) THAT YtdmagcdkklacdaaProg.lean LOADS. Nothing in Lean hashes anything: it is a label: what it is worth is what the hold of that sum in a sandbox is worth. -/
noncomputable def Try.pinned : Pinned := { name := "ytdmagcdkklacdaa", sum := "1dab00f294e18dd428eb21d6fb553ab9d71324d378503b0b40448c212d51a642", checked := Try.checked }
namespace Rows
def none {H : Type} : Left H := { results := [], args := [] }

/-- 'annunciatorlaw18.FeedAll': WHATEVER THE INPUT: true; the input reads as it did. -/
def feedAllSpec : ChangeSpec := { name := "feedAll", fn := fun _ => fun
  | [d1, d2, d3, d4] => { results := [.lit (.bool true)], args := [d1, d2, d3, d4] }
  | _ => none }
def feedAllRow : OpenClaim := { program := "ytdmagcdkklacdaa", sum := "1dab00f294e18dd428eb21d6fb553ab9d71324d378503b0b40448c212d51a642", func := "annunciator/annunciatorlaw18.FeedAll", spec := "feedAll", apart := false }
def FeedAllSaid : Prop := feedAllRow.holds Try.pinned (OpenSpec.ofChange feedAllSpec)

/-- ITS FALSE NEIGHBOUR: 'it returns false'. Refute it at one input. -/
def feedAllWrong : ChangeSpec := { name := "feedAll", fn := fun _ => fun
  | [d1, d2, d3, d4] => { results := [.lit (.bool false)], args := [d1, d2, d3, d4] }
  | _ => none }
def FeedAllWrongFalsely : Prop := feedAllRow.holds Try.pinned (OpenSpec.ofChange feedAllWrong)

/-- 'annunciatorlaw18.FeedCuts': WHATEVER THE INPUT: true; the input reads as it did. -/
def feedCutsSpec : ChangeSpec := { name := "feedCuts", fn := fun _ => fun
  | [d1, d2, d3] => { results := [.lit (.bool true)], args := [d1, d2, d3] }
  | _ => none }
def feedCutsRow : OpenClaim := { program := "ytdmagcdkklacdaa", sum := "1dab00f294e18dd428eb21d6fb553ab9d71324d378503b0b40448c212d51a642", func := "annunciator/annunciatorlaw18.FeedCuts", spec := "feedCuts", apart := false }
def FeedCutsSaid : Prop := feedCutsRow.holds Try.pinned (OpenSpec.ofChange feedCutsSpec)

/-- ITS FALSE NEIGHBOUR: 'it returns false'. Refute it at one input. -/
def feedCutsWrong : ChangeSpec := { name := "feedCuts", fn := fun _ => fun
  | [d1, d2, d3] => { results := [.lit (.bool false)], args := [d1, d2, d3] }
  | _ => none }
def FeedCutsWrongFalsely : Prop := feedCutsRow.holds Try.pinned (OpenSpec.ofChange feedCutsWrong)

/-- 'annunciatorlaw18.FeedBad': WHATEVER THE INPUT: true; the input reads as it did. -/
def feedBadSpec : ChangeSpec := { name := "feedBad", fn := fun _ => fun
  | [d1, d2] => { results := [.lit (.bool true)], args := [d1, d2] }
  | _ => none }
def feedBadRow : OpenClaim := { program := "ytdmagcdkklacdaa", sum := "1dab00f294e18dd428eb21d6fb553ab9d71324d378503b0b40448c212d51a642", func := "annunciator/annunciatorlaw18.FeedBad", spec := "feedBad", apart := false }
def FeedBadSaid : Prop := feedBadRow.holds Try.pinned (OpenSpec.ofChange feedBadSpec)

/-- ITS FALSE NEIGHBOUR: 'it returns false'. Refute it at one input. -/
def feedBadWrong : ChangeSpec := { name := "feedBad", fn := fun _ => fun
  | [d1, d2] => { results := [.lit (.bool false)], args := [d1, d2] }
  | _ => none }
def FeedBadWrongFalsely : Prop := feedBadRow.holds Try.pinned (OpenSpec.ofChange feedBadWrong)

/-- 'annunciatorlaw18.FeedOne': WHATEVER THE INPUT: true; the input reads as it did. -/
def feedOneSpec : ChangeSpec := { name := "feedOne", fn := fun _ => fun
  | [d] => { results := [.lit (.bool true)], args := [d] }
  | _ => none }
def feedOneRow : OpenClaim := { program := "ytdmagcdkklacdaa", sum := "1dab00f294e18dd428eb21d6fb553ab9d71324d378503b0b40448c212d51a642", func := "annunciator/annunciatorlaw18.FeedOne", spec := "feedOne", apart := false }
def FeedOneSaid : Prop := feedOneRow.holds Try.pinned (OpenSpec.ofChange feedOneSpec)

/-- ITS FALSE NEIGHBOUR: 'it returns false'. Refute it at one input. -/
def feedOneWrong : ChangeSpec := { name := "feedOne", fn := fun _ => fun
  | [d] => { results := [.lit (.bool false)], args := [d] }
  | _ => none }
def FeedOneWrongFalsely : Prop := feedOneRow.holds Try.pinned (OpenSpec.ofChange feedOneWrong)

/- THE SECOND FORM. 'bulk': how many values and letters a reading holds, each counted each time it is reached (what is shared counts as often as it is met; a slice's spare places count too). A statement '..UptoSaid' is the law's where the arguments, and the package variables that the reading takes, are together of bulk at most 1048576: NARROWER than '..Said'. Prove '..Said' where nothing that the law and all that it calls make is longer than what came in: it says more and counts as full. Else prove '..UptoSaid'. A law counts once. -/
mutual
def uptoBulk {H : Type} : DataW H → Nat
  | .lit (.string bytes) => bytes.length + 1
  | .lit _ => 1
  | .nil => 1
  | .ptr d => uptoBulk d + 1
  | .slice elems spare => uptoBulkAll elems + uptoBulkAll spare + 1
  | .agg parts => uptoBulkAll parts + 1
  | .iface _ d => uptoBulk d + 1
  | .map entries => uptoBulkEntries entries + 1
  | .held _ => 1
def uptoBulkAll {H : Type} : List (DataW H) → Nat
  | [] => 0
  | d :: r => uptoBulk d + uptoBulkAll r
def uptoBulkEntries {H : Type} : List (Lit × DataW H) → Nat
  | [] => 0
  | x :: r => uptoBulkEntry x + uptoBulkEntries r
def uptoBulkEntry {H : Type} : Lit × DataW H → Nat
  | (.string bytes, d) => bytes.length + uptoBulk d + 1
  | (_, d) => uptoBulk d + 1
 end
def uptoSmall : (H : Type) → List (DataW H) → Bool := fun _ ds => decide (uptoBulkAll ds ≤ 1048576)
def OpenSpec.upto (s : _root_.Go.ChangeSpec) : _root_.Go.OpenSpec := { _root_.Go.OpenSpec.ofChange s with cond := some uptoSmall }

/-- 'annunciatorlaw18.FeedAll', WHERE WHAT IT READS IS OF BULK AT MOST 1048576: true; the input reads as it did. -/
def feedAllUptoRow : OpenClaim := { program := "ytdmagcdkklacdaa", sum := "1dab00f294e18dd428eb21d6fb553ab9d71324d378503b0b40448c212d51a642", func := "annunciator/annunciatorlaw18.FeedAll", spec := "feedAll", apart := false, narrowed := true }
def FeedAllUptoSaid : Prop := feedAllUptoRow.holds Try.pinned (OpenSpec.upto feedAllSpec)

/-- 'annunciatorlaw18.FeedCuts', WHERE WHAT IT READS IS OF BULK AT MOST 1048576: true; the input reads as it did. -/
def feedCutsUptoRow : OpenClaim := { program := "ytdmagcdkklacdaa", sum := "1dab00f294e18dd428eb21d6fb553ab9d71324d378503b0b40448c212d51a642", func := "annunciator/annunciatorlaw18.FeedCuts", spec := "feedCuts", apart := false, narrowed := true }
def FeedCutsUptoSaid : Prop := feedCutsUptoRow.holds Try.pinned (OpenSpec.upto feedCutsSpec)

/-- 'annunciatorlaw18.FeedBad', WHERE WHAT IT READS IS OF BULK AT MOST 1048576: true; the input reads as it did. -/
def feedBadUptoRow : OpenClaim := { program := "ytdmagcdkklacdaa", sum := "1dab00f294e18dd428eb21d6fb553ab9d71324d378503b0b40448c212d51a642", func := "annunciator/annunciatorlaw18.FeedBad", spec := "feedBad", apart := false, narrowed := true }
def FeedBadUptoSaid : Prop := feedBadUptoRow.holds Try.pinned (OpenSpec.upto feedBadSpec)

/-- 'annunciatorlaw18.FeedOne', WHERE WHAT IT READS IS OF BULK AT MOST 1048576: true; the input reads as it did. -/
def feedOneUptoRow : OpenClaim := { program := "ytdmagcdkklacdaa", sum := "1dab00f294e18dd428eb21d6fb553ab9d71324d378503b0b40448c212d51a642", func := "annunciator/annunciatorlaw18.FeedOne", spec := "feedOne", apart := false, narrowed := true }
def FeedOneUptoSaid : Prop := feedOneUptoRow.holds Try.pinned (OpenSpec.upto feedOneSpec)

end Rows
end Go.Proofs.Ytdmagcdkklacdaa
