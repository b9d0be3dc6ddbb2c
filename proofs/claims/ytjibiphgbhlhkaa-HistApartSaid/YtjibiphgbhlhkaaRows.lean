/-
  No cell of these rows narrows 'for every input' (looked for: loops, veiled, ifaces, maps, wideKeys, modest, calm, conditions, laid).
  DERIVED. THE GIVEN ROWS OF THIS SEAT. 5 by the template 'for every input the law returns true; each argument reads behind the call as it read before'; 0 by the template 'total and deterministic' (their statements: YtjibiphgbhlhkaaTotals.lean).
  GIVEN WITH THE SEED: the statements are not yours to turn. If you find one false, say at which input.
  Laid BY PROGRAM, IN A SANDBOX (cutbox-rows.mjs): the forced cells as the released guide's own fill.sh prints them over the translation ec3bf475a9882c1c… (all of the seat's roots in one cut). By AI agents, Wed Nov 11 2026. No macro, syntax, notation, axiom, sorry.
-/
import Derived.Test.YtjibiphgbhlhkaaChecked
import GoSem.Claim
import GoSem.ClaimJoined
import GoSem.ClaimMapViews
import Derived.JoinedTies
import Derived.KernelRfl
namespace Go.Proofs.Ytjibiphgbhlhkaa
/- THE CELL 'sum', in the pinned program and in every row, IS THE sha256 OF THE DUMP (.gsa) THAT YtjibiphgbhlhkaaProg.lean LOADS. Nothing in Lean hashes anything: it is a label: what it is worth is what the hold of that sum in a sandbox is worth. -/
noncomputable def Try.pinned : Pinned := { name := "ytjibiphgbhlhkaa", sum := "ec3bf475a9882c1c08ee7e19ed11983681c2550cc8e56302f5e64d1f8dcbaec5", checked := Try.checked }
namespace Rows
def none {H : Type} : Left H := { results := [], args := [] }

/-- 'annunciatorlaw26.HistRight': WHATEVER THE INPUT: true; the input reads as it did. -/
def histRightSpec : ChangeSpec := { name := "histRight", fn := fun _ => fun
  | [d] => { results := [.lit (.bool true)], args := [d] }
  | _ => none }
def histRightRow : OpenClaim := { program := "ytjibiphgbhlhkaa", sum := "ec3bf475a9882c1c08ee7e19ed11983681c2550cc8e56302f5e64d1f8dcbaec5", func := "annunciator/annunciatorlaw26.HistRight", spec := "histRight", inPlace := ["math.Float64bits"], unfollowed := true, recurses := true, plainKeys := false, apart := false }
def HistRightSaid : Prop := histRightRow.holds Try.pinned (OpenSpec.ofChange histRightSpec)

/-- ITS FALSE NEIGHBOUR: 'it returns false'. Refute it at one input. -/
def histRightWrong : ChangeSpec := { name := "histRight", fn := fun _ => fun
  | [d] => { results := [.lit (.bool false)], args := [d] }
  | _ => none }
def HistRightWrongFalsely : Prop := histRightRow.holds Try.pinned (OpenSpec.ofChange histRightWrong)

/-- 'annunciatorlaw26.HistLess': WHATEVER THE INPUT: true; the input reads as it did. -/
def histLessSpec : ChangeSpec := { name := "histLess", fn := fun _ => fun
  | [d1, d2, d3, d4] => { results := [.lit (.bool true)], args := [d1, d2, d3, d4] }
  | _ => none }
def histLessRow : OpenClaim := { program := "ytjibiphgbhlhkaa", sum := "ec3bf475a9882c1c08ee7e19ed11983681c2550cc8e56302f5e64d1f8dcbaec5", func := "annunciator/annunciatorlaw26.HistLess", spec := "histLess", inPlace := ["math.Float64bits"], unfollowed := true, recurses := true, plainKeys := false, apart := false }
def HistLessSaid : Prop := histLessRow.holds Try.pinned (OpenSpec.ofChange histLessSpec)

/-- ITS FALSE NEIGHBOUR: 'it returns false'. Refute it at one input. -/
def histLessWrong : ChangeSpec := { name := "histLess", fn := fun _ => fun
  | [d1, d2, d3, d4] => { results := [.lit (.bool false)], args := [d1, d2, d3, d4] }
  | _ => none }
def HistLessWrongFalsely : Prop := histLessRow.holds Try.pinned (OpenSpec.ofChange histLessWrong)

/-- 'annunciatorlaw26.HistForms': WHATEVER THE INPUT: true; the input reads as it did. -/
def histFormsSpec : ChangeSpec := { name := "histForms", fn := fun _ => fun
  | [] => { results := [.lit (.bool true)], args := [] }
  | _ => none }
def histFormsRow : OpenClaim := { program := "ytjibiphgbhlhkaa", sum := "ec3bf475a9882c1c08ee7e19ed11983681c2550cc8e56302f5e64d1f8dcbaec5", func := "annunciator/annunciatorlaw26.HistForms", spec := "histForms", inPlace := ["math.Float64bits"], unfollowed := true, recurses := true, plainKeys := false, apart := false }
def HistFormsSaid : Prop := histFormsRow.holds Try.pinned (OpenSpec.ofChange histFormsSpec)

/-- ITS FALSE NEIGHBOUR: 'it returns false'. Refute it at one input. -/
def histFormsWrong : ChangeSpec := { name := "histForms", fn := fun _ => fun
  | [] => { results := [.lit (.bool false)], args := [] }
  | _ => none }
def HistFormsWrongFalsely : Prop := histFormsRow.holds Try.pinned (OpenSpec.ofChange histFormsWrong)

/-- 'annunciatorlaw26.HistApart': WHATEVER THE INPUT: true; the input reads as it did. -/
def histApartSpec : ChangeSpec := { name := "histApart", fn := fun _ => fun
  | [d1, d2] => { results := [.lit (.bool true)], args := [d1, d2] }
  | _ => none }
def histApartRow : OpenClaim := { program := "ytjibiphgbhlhkaa", sum := "ec3bf475a9882c1c08ee7e19ed11983681c2550cc8e56302f5e64d1f8dcbaec5", func := "annunciator/annunciatorlaw26.HistApart", spec := "histApart", inPlace := ["math.Float64bits"], unfollowed := true, recurses := true, plainKeys := false, apart := false }
def HistApartSaid : Prop := histApartRow.holds Try.pinned (OpenSpec.ofChange histApartSpec)

/-- ITS FALSE NEIGHBOUR: 'it returns false'. Refute it at one input. -/
def histApartWrong : ChangeSpec := { name := "histApart", fn := fun _ => fun
  | [d1, d2] => { results := [.lit (.bool false)], args := [d1, d2] }
  | _ => none }
def HistApartWrongFalsely : Prop := histApartRow.holds Try.pinned (OpenSpec.ofChange histApartWrong)

/-- 'annunciatorlaw26.HistLater': WHATEVER THE INPUT: true; the input reads as it did. -/
def histLaterSpec : ChangeSpec := { name := "histLater", fn := fun _ => fun
  | [d1, d2, d3] => { results := [.lit (.bool true)], args := [d1, d2, d3] }
  | _ => none }
def histLaterRow : OpenClaim := { program := "ytjibiphgbhlhkaa", sum := "ec3bf475a9882c1c08ee7e19ed11983681c2550cc8e56302f5e64d1f8dcbaec5", func := "annunciator/annunciatorlaw26.HistLater", spec := "histLater", inPlace := ["math.Float64bits"], unfollowed := true, recurses := true, plainKeys := false, apart := false }
def HistLaterSaid : Prop := histLaterRow.holds Try.pinned (OpenSpec.ofChange histLaterSpec)

/-- ITS FALSE NEIGHBOUR: 'it returns false'. Refute it at one input. -/
def histLaterWrong : ChangeSpec := { name := "histLater", fn := fun _ => fun
  | [d1, d2, d3] => { results := [.lit (.bool false)], args := [d1, d2, d3] }
  | _ => none }
def HistLaterWrongFalsely : Prop := histLaterRow.holds Try.pinned (OpenSpec.ofChange histLaterWrong)

/- THE SECOND FORM. 'bulk': how many values and letters a reading holds, each counted each time it is reached (what is shared counts as often as it is met; a slice's spare places count too). A statement '..UptoSaid' is the law's where the arguments, and the package variables that the reading takes, are together of bulk at most 1048576: NARROWER than '..Said'. Prove '..Said' where nothing that the law and all that it calls make is longer than what came in: it says more and counts as full. Else prove '..UptoSaid'. A law counts once. -/
mutual
def uptoBulk {H : Type} : DataW H → Nat
  | .lit (.string bytes) => bytes.length + 1
  | .lit _ => 1
  | .nil => 1
  | .ptr d => uptoBulk d + 1
  | .slice elems spare => uptoBulkAll elems + uptoBulkAll spare + 1
  | .agg parts => uptoBulkAll parts + 1
  | .iface _ d => uptoBulk d + 1
  | .map entries => uptoBulkEntries entries + 1
  | .held _ => 1
def uptoBulkAll {H : Type} : List (DataW H) → Nat
  | [] => 0
  | d :: r => uptoBulk d + uptoBulkAll r
def uptoBulkEntries {H : Type} : List (Lit × DataW H) → Nat
  | [] => 0
  | x :: r => uptoBulkEntry x + uptoBulkEntries r
def uptoBulkEntry {H : Type} : Lit × DataW H → Nat
  | (.string bytes, d) => bytes.length + uptoBulk d + 1
  | (_, d) => uptoBulk d + 1
 end
def uptoSmall : (H : Type) → List (DataW H) → Bool := fun _ ds => decide (uptoBulkAll ds ≤ 1048576)
def OpenSpec.upto (s : _root_.Go.ChangeSpec) : _root_.Go.OpenSpec := { _root_.Go.OpenSpec.ofChange s with cond := some uptoSmall }

/-- 'annunciatorlaw26.HistRight', WHERE WHAT IT READS IS OF BULK AT MOST 1048576: true; the input reads as it did. -/
def histRightUptoRow : OpenClaim := { program := "ytjibiphgbhlhkaa", sum := "ec3bf475a9882c1c08ee7e19ed11983681c2550cc8e56302f5e64d1f8dcbaec5", func := "annunciator/annunciatorlaw26.HistRight", spec := "histRight", inPlace := ["math.Float64bits"], unfollowed := true, recurses := true, plainKeys := false, apart := false, narrowed := true }
def HistRightUptoSaid : Prop := histRightUptoRow.holds Try.pinned (OpenSpec.upto histRightSpec)

/-- 'annunciatorlaw26.HistLess', WHERE WHAT IT READS IS OF BULK AT MOST 1048576: true; the input reads as it did. -/
def histLessUptoRow : OpenClaim := { program := "ytjibiphgbhlhkaa", sum := "ec3bf475a9882c1c08ee7e19ed11983681c2550cc8e56302f5e64d1f8dcbaec5", func := "annunciator/annunciatorlaw26.HistLess", spec := "histLess", inPlace := ["math.Float64bits"], unfollowed := true, recurses := true, plainKeys := false, apart := false, narrowed := true }
def HistLessUptoSaid : Prop := histLessUptoRow.holds Try.pinned (OpenSpec.upto histLessSpec)

/-- 'annunciatorlaw26.HistForms', WHERE WHAT IT READS IS OF BULK AT MOST 1048576: true; the input reads as it did. -/
def histFormsUptoRow : OpenClaim := { program := "ytjibiphgbhlhkaa", sum := "ec3bf475a9882c1c08ee7e19ed11983681c2550cc8e56302f5e64d1f8dcbaec5", func := "annunciator/annunciatorlaw26.HistForms", spec := "histForms", inPlace := ["math.Float64bits"], unfollowed := true, recurses := true, plainKeys := false, apart := false, narrowed := true }
def HistFormsUptoSaid : Prop := histFormsUptoRow.holds Try.pinned (OpenSpec.upto histFormsSpec)

/-- 'annunciatorlaw26.HistApart', WHERE WHAT IT READS IS OF BULK AT MOST 1048576: true; the input reads as it did. -/
def histApartUptoRow : OpenClaim := { program := "ytjibiphgbhlhkaa", sum := "ec3bf475a9882c1c08ee7e19ed11983681c2550cc8e56302f5e64d1f8dcbaec5", func := "annunciator/annunciatorlaw26.HistApart", spec := "histApart", inPlace := ["math.Float64bits"], unfollowed := true, recurses := true, plainKeys := false, apart := false, narrowed := true }
def HistApartUptoSaid : Prop := histApartUptoRow.holds Try.pinned (OpenSpec.upto histApartSpec)

/-- 'annunciatorlaw26.HistLater', WHERE WHAT IT READS IS OF BULK AT MOST 1048576: true; the input reads as it did. -/
def histLaterUptoRow : OpenClaim := { program := "ytjibiphgbhlhkaa", sum := "ec3bf475a9882c1c08ee7e19ed11983681c2550cc8e56302f5e64d1f8dcbaec5", func := "annunciator/annunciatorlaw26.HistLater", spec := "histLater", inPlace := ["math.Float64bits"], unfollowed := true, recurses := true, plainKeys := false, apart := false, narrowed := true }
def HistLaterUptoSaid : Prop := histLaterUptoRow.holds Try.pinned (OpenSpec.upto histLaterSpec)

end Rows
end Go.Proofs.Ytjibiphgbhlhkaa
