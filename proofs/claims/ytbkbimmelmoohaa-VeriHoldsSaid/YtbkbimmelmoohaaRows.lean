/-
  No cell of these rows narrows 'for every input' (looked for: loops, veiled, ifaces, maps, wideKeys, modest, calm, conditions, laid).
  DERIVED. THE GIVEN ROWS OF THIS SEAT. 3 by the template 'for every input the law returns true; each argument reads behind the call as it read before'; 0 by the template 'total and deterministic' (their statements: YtbkbimmelmoohaaTotals.lean).
  GIVEN WITH THE SEED: the statements are not yours to turn. If you find one false, say at which input.
  Laid BY PROGRAM, IN A SANDBOX (cutbox-rows.mjs): the forced cells as the released guide's own fill.sh prints them over the translation 434844ab181dcea2… (all of the seat's roots in one cut). By AI agents, Wed Nov 11 2026. No macro, syntax, notation, axiom, sorry.
-/
import Derived.Test.YtbkbimmelmoohaaChecked
import GoSem.Claim
import GoSem.ClaimJoined
import GoSem.ClaimMapViews
import Derived.JoinedTies
import Derived.KernelRfl
namespace Go.Proofs.Ytbkbimmelmoohaa
/- THE CELL 'sum', in the pinned program and in every row, IS THE sha256 OF THE DUMP (.gsa) THAT YtbkbimmelmoohaaProg.lean LOADS. Nothing in Lean hashes anything: it is a label: what it is worth is what the hold of that sum in a sandbox is worth. -/
noncomputable def Try.pinned : Pinned := { name := "ytbkbimmelmoohaa", sum := "434844ab181dcea2deba90bc4c2624b4f086aaee03b3e606946a68f7b7db670e", checked := Try.checked }
namespace Rows
def none {H : Type} : Left H := { results := [], args := [] }

/-- 'annunciatorlaw13.VeriAll': WHATEVER THE INPUT: true; the input reads as it did. -/
def veriAllSpec : ChangeSpec := { name := "veriAll", fn := fun _ => fun
  | [d1, d2, d3, d4, d5] => { results := [.lit (.bool true)], args := [d1, d2, d3, d4, d5] }
  | _ => none }
def veriAllRow : OpenClaim := { program := "ytbkbimmelmoohaa", sum := "434844ab181dcea2deba90bc4c2624b4f086aaee03b3e606946a68f7b7db670e", func := "annunciator/annunciatorlaw13.VeriAll", spec := "veriAll", inPlace := ["math.Float64bits"], unfollowed := true, recurses := true, plainKeys := false, apart := false }
def VeriAllSaid : Prop := veriAllRow.holds Try.pinned (OpenSpec.ofChange veriAllSpec)

/-- ITS FALSE NEIGHBOUR: 'it returns false'. Refute it at one input. -/
def veriAllWrong : ChangeSpec := { name := "veriAll", fn := fun _ => fun
  | [d1, d2, d3, d4, d5] => { results := [.lit (.bool false)], args := [d1, d2, d3, d4, d5] }
  | _ => none }
def VeriAllWrongFalsely : Prop := veriAllRow.holds Try.pinned (OpenSpec.ofChange veriAllWrong)

/-- 'annunciatorlaw13.VeriHolds': WHATEVER THE INPUT: true; the input reads as it did. -/
def veriHoldsSpec : ChangeSpec := { name := "veriHolds", fn := fun _ => fun
  | [d1, d2] => { results := [.lit (.bool true)], args := [d1, d2] }
  | _ => none }
def veriHoldsRow : OpenClaim := { program := "ytbkbimmelmoohaa", sum := "434844ab181dcea2deba90bc4c2624b4f086aaee03b3e606946a68f7b7db670e", func := "annunciator/annunciatorlaw13.VeriHolds", spec := "veriHolds", inPlace := ["math.Float64bits"], unfollowed := true, recurses := true, plainKeys := false, apart := false }
def VeriHoldsSaid : Prop := veriHoldsRow.holds Try.pinned (OpenSpec.ofChange veriHoldsSpec)

/-- ITS FALSE NEIGHBOUR: 'it returns false'. Refute it at one input. -/
def veriHoldsWrong : ChangeSpec := { name := "veriHolds", fn := fun _ => fun
  | [d1, d2] => { results := [.lit (.bool false)], args := [d1, d2] }
  | _ => none }
def VeriHoldsWrongFalsely : Prop := veriHoldsRow.holds Try.pinned (OpenSpec.ofChange veriHoldsWrong)

/-- 'annunciatorlaw13.VeriForms': WHATEVER THE INPUT: true; the input reads as it did. -/
def veriFormsSpec : ChangeSpec := { name := "veriForms", fn := fun _ => fun
  | [] => { results := [.lit (.bool true)], args := [] }
  | _ => none }
def veriFormsRow : OpenClaim := { program := "ytbkbimmelmoohaa", sum := "434844ab181dcea2deba90bc4c2624b4f086aaee03b3e606946a68f7b7db670e", func := "annunciator/annunciatorlaw13.VeriForms", spec := "veriForms", inPlace := ["math.Float64bits"], unfollowed := true, recurses := true, plainKeys := false, apart := false }
def VeriFormsSaid : Prop := veriFormsRow.holds Try.pinned (OpenSpec.ofChange veriFormsSpec)

/-- ITS FALSE NEIGHBOUR: 'it returns false'. Refute it at one input. -/
def veriFormsWrong : ChangeSpec := { name := "veriForms", fn := fun _ => fun
  | [] => { results := [.lit (.bool false)], args := [] }
  | _ => none }
def VeriFormsWrongFalsely : Prop := veriFormsRow.holds Try.pinned (OpenSpec.ofChange veriFormsWrong)

/- THE SECOND FORM. 'bulk': how many values and letters a reading holds, each counted each time it is reached (what is shared counts as often as it is met; a slice's spare places count too). A statement '..UptoSaid' is the law's where the arguments, and the package variables that the reading takes, are together of bulk at most 1048576: NARROWER than '..Said'. Prove '..Said' where nothing that the law and all that it calls make is longer than what came in: it says more and counts as full. Else prove '..UptoSaid'. A law counts once. -/
mutual
def uptoBulk {H : Type} : DataW H → Nat
  | .lit (.string bytes) => bytes.length + 1
  | .lit _ => 1
  | .nil => 1
  | .ptr d => uptoBulk d + 1
  | .slice elems spare => uptoBulkAll elems + uptoBulkAll spare + 1
  | .agg parts => uptoBulkAll parts + 1
  | .iface _ d => uptoBulk d + 1
  | .map entries => uptoBulkEntries entries + 1
  | .held _ => 1
def uptoBulkAll {H : Type} : List (DataW H) → Nat
  | [] => 0
  | d :: r => uptoBulk d + uptoBulkAll r
def uptoBulkEntries {H : Type} : List (Lit × DataW H) → Nat
  | [] => 0
  | x :: r => uptoBulkEntry x + uptoBulkEntries r
def uptoBulkEntry {H : Type} : Lit × DataW H → Nat
  | (.string bytes, d) => bytes.length + uptoBulk d + 1
  | (_, d) => uptoBulk d + 1
 end
def uptoSmall : (H : Type) → List (DataW H) → Bool := fun _ ds => decide (uptoBulkAll ds ≤ 1048576)
def OpenSpec.upto (s : _root_.Go.ChangeSpec) : _root_.Go.OpenSpec := { _root_.Go.OpenSpec.ofChange s with cond := some uptoSmall }

/-- 'annunciatorlaw13.VeriAll', WHERE WHAT IT READS IS OF BULK AT MOST 1048576: true; the input reads as it did. -/
def veriAllUptoRow : OpenClaim := { program := "ytbkbimmelmoohaa", sum := "434844ab181dcea2deba90bc4c2624b4f086aaee03b3e606946a68f7b7db670e", func := "annunciator/annunciatorlaw13.VeriAll", spec := "veriAll", inPlace := ["math.Float64bits"], unfollowed := true, recurses := true, plainKeys := false, apart := false, narrowed := true }
def VeriAllUptoSaid : Prop := veriAllUptoRow.holds Try.pinned (OpenSpec.upto veriAllSpec)

/-- 'annunciatorlaw13.VeriHolds', WHERE WHAT IT READS IS OF BULK AT MOST 1048576: true; the input reads as it did. -/
def veriHoldsUptoRow : OpenClaim := { program := "ytbkbimmelmoohaa", sum := "434844ab181dcea2deba90bc4c2624b4f086aaee03b3e606946a68f7b7db670e", func := "annunciator/annunciatorlaw13.VeriHolds", spec := "veriHolds", inPlace := ["math.Float64bits"], unfollowed := true, recurses := true, plainKeys := false, apart := false, narrowed := true }
def VeriHoldsUptoSaid : Prop := veriHoldsUptoRow.holds Try.pinned (OpenSpec.upto veriHoldsSpec)

/-- 'annunciatorlaw13.VeriForms', WHERE WHAT IT READS IS OF BULK AT MOST 1048576: true; the input reads as it did. -/
def veriFormsUptoRow : OpenClaim := { program := "ytbkbimmelmoohaa", sum := "434844ab181dcea2deba90bc4c2624b4f086aaee03b3e606946a68f7b7db670e", func := "annunciator/annunciatorlaw13.VeriForms", spec := "veriForms", inPlace := ["math.Float64bits"], unfollowed := true, recurses := true, plainKeys := false, apart := false, narrowed := true }
def VeriFormsUptoSaid : Prop := veriFormsUptoRow.holds Try.pinned (OpenSpec.upto veriFormsSpec)

end Rows
end Go.Proofs.Ytbkbimmelmoohaa
