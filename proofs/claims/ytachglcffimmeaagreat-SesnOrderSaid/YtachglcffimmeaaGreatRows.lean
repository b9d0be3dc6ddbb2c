/-
  No cell of these rows narrows 'for every input' (looked for: loops, veiled, ifaces, maps, wideKeys, modest, calm, conditions, laid).
  DERIVED. THE GIVEN ROWS OF THIS SEAT. 3 by the template 'for every input the law returns true; each argument reads behind the call as it read before'; 0 by the template 'total and deterministic' (their statements: YtachglcffimmeaaGreatTotals.lean).
  GIVEN WITH THE SEED: the statements are not yours to turn. If you find one false, say at which input.
  Laid BY PROGRAM, IN A SANDBOX (cutbox-rows.mjs): the forced cells as the released guide's own fill.sh prints them over the translation 878d191dd0e8b02c… (all of the seat's roots in one cut). By AI agents, Wed Nov 11 2026. No macro, syntax, notation, axiom, sorry.
-/
import Derived.Test.YtachglcffimmeaaGreatChecked
import GoSem.Claim
import GoSem.ClaimJoined
import GoSem.ClaimMapViews
import Derived.JoinedTies
import Derived.KernelRfl
namespace Go.Proofs.YtachglcffimmeaaGreat
/- THE CELL 'sum', in the pinned program and in every row, IS THE sha256 OF THE DUMP (.gsa) THAT YtachglcffimmeaaGreatProg.lean LOADS. Nothing in Lean hashes anything: it is a label: what it is worth is what the hold of that sum in a sandbox is worth. -/
noncomputable def Tryz.pinned : Pinned := { name := "ytachglcffimmeaagreat", sum := "878d191dd0e8b02c3cfd9d2f4351de0c2feb4abd06e8899faa83e6166594297a", checked := Tryz.checked }
namespace Rows
def none {H : Type} : Left H := { results := [], args := [] }

/-- 'annunciatorlaw23.SesnOrder': WHATEVER THE INPUT: true; the input reads as it did. -/
def sesnOrderSpec : ChangeSpec := { name := "sesnOrder", fn := fun _ => fun
  | [d] => { results := [.lit (.bool true)], args := [d] }
  | _ => none }
def sesnOrderRow : OpenClaim := { program := "ytachglcffimmeaagreat", sum := "878d191dd0e8b02c3cfd9d2f4351de0c2feb4abd06e8899faa83e6166594297a", func := "annunciator/annunciatorlaw23.SesnOrder", spec := "sesnOrder", inPlace := ["math.Float64bits", "math.Float64frombits"], unfollowed := true, recurses := true, apart := false }
def SesnOrderSaid : Prop := sesnOrderRow.holds Tryz.pinned (OpenSpec.ofChange sesnOrderSpec)

/-- ITS FALSE NEIGHBOUR: 'it returns false'. Refute it at one input. -/
def sesnOrderWrong : ChangeSpec := { name := "sesnOrder", fn := fun _ => fun
  | [d] => { results := [.lit (.bool false)], args := [d] }
  | _ => none }
def SesnOrderWrongFalsely : Prop := sesnOrderRow.holds Tryz.pinned (OpenSpec.ofChange sesnOrderWrong)

/-- 'annunciatorlaw23.SesnGone': WHATEVER THE INPUT: true; the input reads as it did. -/
def sesnGoneSpec : ChangeSpec := { name := "sesnGone", fn := fun _ => fun
  | [d1, d2, d3] => { results := [.lit (.bool true)], args := [d1, d2, d3] }
  | _ => none }
def sesnGoneRow : OpenClaim := { program := "ytachglcffimmeaagreat", sum := "878d191dd0e8b02c3cfd9d2f4351de0c2feb4abd06e8899faa83e6166594297a", func := "annunciator/annunciatorlaw23.SesnGone", spec := "sesnGone", inPlace := ["math.Float64bits", "math.Float64frombits"], unfollowed := true, recurses := true, apart := false }
def SesnGoneSaid : Prop := sesnGoneRow.holds Tryz.pinned (OpenSpec.ofChange sesnGoneSpec)

/-- ITS FALSE NEIGHBOUR: 'it returns false'. Refute it at one input. -/
def sesnGoneWrong : ChangeSpec := { name := "sesnGone", fn := fun _ => fun
  | [d1, d2, d3] => { results := [.lit (.bool false)], args := [d1, d2, d3] }
  | _ => none }
def SesnGoneWrongFalsely : Prop := sesnGoneRow.holds Tryz.pinned (OpenSpec.ofChange sesnGoneWrong)

/-- 'annunciatorlaw23.SesnCuts': WHATEVER THE INPUT: true; the input reads as it did. -/
def sesnCutsSpec : ChangeSpec := { name := "sesnCuts", fn := fun _ => fun
  | [d1, d2, d3] => { results := [.lit (.bool true)], args := [d1, d2, d3] }
  | _ => none }
def sesnCutsRow : OpenClaim := { program := "ytachglcffimmeaagreat", sum := "878d191dd0e8b02c3cfd9d2f4351de0c2feb4abd06e8899faa83e6166594297a", func := "annunciator/annunciatorlaw23.SesnCuts", spec := "sesnCuts", inPlace := ["math.Float64bits", "math.Float64frombits"], unfollowed := true, recurses := true, apart := false }
def SesnCutsSaid : Prop := sesnCutsRow.holds Tryz.pinned (OpenSpec.ofChange sesnCutsSpec)

/-- ITS FALSE NEIGHBOUR: 'it returns false'. Refute it at one input. -/
def sesnCutsWrong : ChangeSpec := { name := "sesnCuts", fn := fun _ => fun
  | [d1, d2, d3] => { results := [.lit (.bool false)], args := [d1, d2, d3] }
  | _ => none }
def SesnCutsWrongFalsely : Prop := sesnCutsRow.holds Tryz.pinned (OpenSpec.ofChange sesnCutsWrong)

/- THE SECOND FORM. 'bulk': how many values and letters a reading holds, each counted each time it is reached (what is shared counts as often as it is met; a slice's spare places count too). A statement '..UptoSaid' is the law's where the arguments, and the package variables that the reading takes, are together of bulk at most 1048576: NARROWER than '..Said'. Prove '..Said' where nothing that the law and all that it calls make is longer than what came in: it says more and counts as full. Else prove '..UptoSaid'. A law counts once. -/
mutual
def uptoBulk {H : Type} : DataW H → Nat
  | .lit (.string bytes) => bytes.length + 1
  | .lit _ => 1
  | .nil => 1
  | .ptr d => uptoBulk d + 1
  | .slice elems spare => uptoBulkAll elems + uptoBulkAll spare + 1
  | .agg parts => uptoBulkAll parts + 1
  | .iface _ d => uptoBulk d + 1
  | .map entries => uptoBulkEntries entries + 1
  | .held _ => 1
def uptoBulkAll {H : Type} : List (DataW H) → Nat
  | [] => 0
  | d :: r => uptoBulk d + uptoBulkAll r
def uptoBulkEntries {H : Type} : List (Lit × DataW H) → Nat
  | [] => 0
  | x :: r => uptoBulkEntry x + uptoBulkEntries r
def uptoBulkEntry {H : Type} : Lit × DataW H → Nat
  | (.string bytes, d) => bytes.length + uptoBulk d + 1
  | (_, d) => uptoBulk d + 1
 end
def uptoSmall : (H : Type) → List (DataW H) → Bool := fun _ ds => decide (uptoBulkAll ds ≤ 1048576)
def OpenSpec.upto (s : _root_.Go.ChangeSpec) : _root_.Go.OpenSpec := { _root_.Go.OpenSpec.ofChange s with cond := some uptoSmall }

/-- 'annunciatorlaw23.SesnOrder', WHERE WHAT IT READS IS OF BULK AT MOST 1048576: true; the input reads as it did. -/
def sesnOrderUptoRow : OpenClaim := { program := "ytachglcffimmeaagreat", sum := "878d191dd0e8b02c3cfd9d2f4351de0c2feb4abd06e8899faa83e6166594297a", func := "annunciator/annunciatorlaw23.SesnOrder", spec := "sesnOrder", inPlace := ["math.Float64bits", "math.Float64frombits"], unfollowed := true, recurses := true, apart := false, narrowed := true }
def SesnOrderUptoSaid : Prop := sesnOrderUptoRow.holds Tryz.pinned (OpenSpec.upto sesnOrderSpec)

/-- 'annunciatorlaw23.SesnGone', WHERE WHAT IT READS IS OF BULK AT MOST 1048576: true; the input reads as it did. -/
def sesnGoneUptoRow : OpenClaim := { program := "ytachglcffimmeaagreat", sum := "878d191dd0e8b02c3cfd9d2f4351de0c2feb4abd06e8899faa83e6166594297a", func := "annunciator/annunciatorlaw23.SesnGone", spec := "sesnGone", inPlace := ["math.Float64bits", "math.Float64frombits"], unfollowed := true, recurses := true, apart := false, narrowed := true }
def SesnGoneUptoSaid : Prop := sesnGoneUptoRow.holds Tryz.pinned (OpenSpec.upto sesnGoneSpec)

/-- 'annunciatorlaw23.SesnCuts', WHERE WHAT IT READS IS OF BULK AT MOST 1048576: true; the input reads as it did. -/
def sesnCutsUptoRow : OpenClaim := { program := "ytachglcffimmeaagreat", sum := "878d191dd0e8b02c3cfd9d2f4351de0c2feb4abd06e8899faa83e6166594297a", func := "annunciator/annunciatorlaw23.SesnCuts", spec := "sesnCuts", inPlace := ["math.Float64bits", "math.Float64frombits"], unfollowed := true, recurses := true, apart := false, narrowed := true }
def SesnCutsUptoSaid : Prop := sesnCutsUptoRow.holds Tryz.pinned (OpenSpec.upto sesnCutsSpec)

end Rows
end Go.Proofs.YtachglcffimmeaaGreat
