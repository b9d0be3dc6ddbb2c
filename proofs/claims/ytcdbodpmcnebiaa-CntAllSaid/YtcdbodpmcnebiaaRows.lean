/-
  No cell of these rows narrows 'for every input' (looked for: loops, veiled, ifaces, maps, wideKeys, modest, calm, conditions, laid).
  DERIVED. THE GIVEN ROWS OF THIS SEAT. 5 by the template 'for every input the law returns true; each argument reads behind the call as it read before'; 0 by the template 'total and deterministic' (their statements: YtcdbodpmcnebiaaTotals.lean).
  GIVEN WITH THE SEED: the statements are not yours to turn. If you find one false, say at which input.
  Laid BY PROGRAM, IN A SANDBOX (cutbox-rows.mjs): the forced cells as the released guide's own fill.sh prints them over the translation ff57f61baf6b2b8e… (all of the seat's roots in one cut). By AI agents, Wed Nov 11 2026. No macro, syntax, notation, axiom, sorry.
-/
import Derived.Test.YtcdbodpmcnebiaaChecked
import GoSem.Claim
import GoSem.ClaimJoined
import GoSem.ClaimMapViews
import Derived.JoinedTies
import Derived.KernelRfl
namespace Go.Proofs.Ytcdbodpmcnebiaa
/- THE CELL 'sum', in the pinned program and in every row, IS THE sha256 OF THE DUMP (.gsa) THAT YtcdbodpmcnebiaaProg.lean LOADS. Nothing in Lean hashes anything: it is a label: what it is worth is what the hold of that sum in a sandbox is worth. -/
noncomputable def Try.pinned : Pinned := { name := "ytcdbodpmcnebiaa", sum := "ff57f61baf6b2b8efd97a1e15db6f97d076fb836cb44cccf0f46f3064230214d", checked := Try.checked }
namespace Rows
def none {H : Type} : Left H := { results := [], args := [] }

/-- 'annunciatorlaw9.CntUp': WHATEVER THE INPUT: true; the input reads as it did. -/
def cntUpSpec : ChangeSpec := { name := "cntUp", fn := fun _ => fun
  | [d1, d2, d3] => { results := [.lit (.bool true)], args := [d1, d2, d3] }
  | _ => none }
def cntUpRow : OpenClaim := { program := "ytcdbodpmcnebiaa", sum := "ff57f61baf6b2b8efd97a1e15db6f97d076fb836cb44cccf0f46f3064230214d", func := "annunciator/annunciatorlaw9.CntUp", spec := "cntUp", unfollowed := true, recurses := true, apart := false }
def CntUpSaid : Prop := cntUpRow.holds Try.pinned (OpenSpec.ofChange cntUpSpec)

/-- ITS FALSE NEIGHBOUR: 'it returns false'. Refute it at one input. -/
def cntUpWrong : ChangeSpec := { name := "cntUp", fn := fun _ => fun
  | [d1, d2, d3] => { results := [.lit (.bool false)], args := [d1, d2, d3] }
  | _ => none }
def CntUpWrongFalsely : Prop := cntUpRow.holds Try.pinned (OpenSpec.ofChange cntUpWrong)

/-- 'annunciatorlaw9.CntDown': WHATEVER THE INPUT: true; the input reads as it did. -/
def cntDownSpec : ChangeSpec := { name := "cntDown", fn := fun _ => fun
  | [d1, d2] => { results := [.lit (.bool true)], args := [d1, d2] }
  | _ => none }
def cntDownRow : OpenClaim := { program := "ytcdbodpmcnebiaa", sum := "ff57f61baf6b2b8efd97a1e15db6f97d076fb836cb44cccf0f46f3064230214d", func := "annunciator/annunciatorlaw9.CntDown", spec := "cntDown", unfollowed := true, recurses := true, apart := false }
def CntDownSaid : Prop := cntDownRow.holds Try.pinned (OpenSpec.ofChange cntDownSpec)

/-- ITS FALSE NEIGHBOUR: 'it returns false'. Refute it at one input. -/
def cntDownWrong : ChangeSpec := { name := "cntDown", fn := fun _ => fun
  | [d1, d2] => { results := [.lit (.bool false)], args := [d1, d2] }
  | _ => none }
def CntDownWrongFalsely : Prop := cntDownRow.holds Try.pinned (OpenSpec.ofChange cntDownWrong)

/-- 'annunciatorlaw9.CntEdges': WHATEVER THE INPUT: true; the input reads as it did. -/
def cntEdgesSpec : ChangeSpec := { name := "cntEdges", fn := fun _ => fun
  | [d] => { results := [.lit (.bool true)], args := [d] }
  | _ => none }
def cntEdgesRow : OpenClaim := { program := "ytcdbodpmcnebiaa", sum := "ff57f61baf6b2b8efd97a1e15db6f97d076fb836cb44cccf0f46f3064230214d", func := "annunciator/annunciatorlaw9.CntEdges", spec := "cntEdges", unfollowed := true, recurses := true, apart := false }
def CntEdgesSaid : Prop := cntEdgesRow.holds Try.pinned (OpenSpec.ofChange cntEdgesSpec)

/-- ITS FALSE NEIGHBOUR: 'it returns false'. Refute it at one input. -/
def cntEdgesWrong : ChangeSpec := { name := "cntEdges", fn := fun _ => fun
  | [d] => { results := [.lit (.bool false)], args := [d] }
  | _ => none }
def CntEdgesWrongFalsely : Prop := cntEdgesRow.holds Try.pinned (OpenSpec.ofChange cntEdgesWrong)

/-- 'annunciatorlaw9.CntForms': WHATEVER THE INPUT: true; the input reads as it did. -/
def cntFormsSpec : ChangeSpec := { name := "cntForms", fn := fun _ => fun
  | [] => { results := [.lit (.bool true)], args := [] }
  | _ => none }
def cntFormsRow : OpenClaim := { program := "ytcdbodpmcnebiaa", sum := "ff57f61baf6b2b8efd97a1e15db6f97d076fb836cb44cccf0f46f3064230214d", func := "annunciator/annunciatorlaw9.CntForms", spec := "cntForms", unfollowed := true, recurses := true, apart := false }
def CntFormsSaid : Prop := cntFormsRow.holds Try.pinned (OpenSpec.ofChange cntFormsSpec)

/-- ITS FALSE NEIGHBOUR: 'it returns false'. Refute it at one input. -/
def cntFormsWrong : ChangeSpec := { name := "cntForms", fn := fun _ => fun
  | [] => { results := [.lit (.bool false)], args := [] }
  | _ => none }
def CntFormsWrongFalsely : Prop := cntFormsRow.holds Try.pinned (OpenSpec.ofChange cntFormsWrong)

/-- 'annunciatorlaw9.CntAll': WHATEVER THE INPUT: true; the input reads as it did. -/
def cntAllSpec : ChangeSpec := { name := "cntAll", fn := fun _ => fun
  | [d1, d2, d3, d4, d5, d6, d7] => { results := [.lit (.bool true)], args := [d1, d2, d3, d4, d5, d6, d7] }
  | _ => none }
def cntAllRow : OpenClaim := { program := "ytcdbodpmcnebiaa", sum := "ff57f61baf6b2b8efd97a1e15db6f97d076fb836cb44cccf0f46f3064230214d", func := "annunciator/annunciatorlaw9.CntAll", spec := "cntAll", inPlace := ["math.Float64bits"], unfollowed := true, recurses := true, apart := false }
def CntAllSaid : Prop := cntAllRow.holds Try.pinned (OpenSpec.ofChange cntAllSpec)

/-- ITS FALSE NEIGHBOUR: 'it returns false'. Refute it at one input. -/
def cntAllWrong : ChangeSpec := { name := "cntAll", fn := fun _ => fun
  | [d1, d2, d3, d4, d5, d6, d7] => { results := [.lit (.bool false)], args := [d1, d2, d3, d4, d5, d6, d7] }
  | _ => none }
def CntAllWrongFalsely : Prop := cntAllRow.holds Try.pinned (OpenSpec.ofChange cntAllWrong)

/- THE SECOND FORM. 'bulk': how many values and letters a reading holds, each counted each time it is reached (what is shared counts as often as it is met; a slice's spare places count too). A statement '..UptoSaid' is the law's where the arguments, and the package variables that the reading takes, are together of bulk at most 1048576: NARROWER than '..Said'. Prove '..Said' where nothing that the law and all that it calls make is longer than what came in: it says more and counts as full. Else prove '..UptoSaid'. A law counts once. -/
mutual
def uptoBulk {H : Type} : DataW H → Nat
  | .lit (.string bytes) => bytes.length + 1
  | .lit _ => 1
  | .nil => 1
  | .ptr d => uptoBulk d + 1
  | .slice elems spare => uptoBulkAll elems + uptoBulkAll spare + 1
  | .agg parts => uptoBulkAll parts + 1
  | .iface _ d => uptoBulk d + 1
  | .map entries => uptoBulkEntries entries + 1
  | .held _ => 1
def uptoBulkAll {H : Type} : List (DataW H) → Nat
  | [] => 0
  | d :: r => uptoBulk d + uptoBulkAll r
def uptoBulkEntries {H : Type} : List (Lit × DataW H) → Nat
  | [] => 0
  | x :: r => uptoBulkEntry x + uptoBulkEntries r
def uptoBulkEntry {H : Type} : Lit × DataW H → Nat
  | (.string bytes, d) => bytes.length + uptoBulk d + 1
  | (_, d) => uptoBulk d + 1
 end
def uptoSmall : (H : Type) → List (DataW H) → Bool := fun _ ds => decide (uptoBulkAll ds ≤ 1048576)
def OpenSpec.upto (s : _root_.Go.ChangeSpec) : _root_.Go.OpenSpec := { _root_.Go.OpenSpec.ofChange s with cond := some uptoSmall }

/-- 'annunciatorlaw9.CntUp', WHERE WHAT IT READS IS OF BULK AT MOST 1048576: true; the input reads as it did. -/
def cntUpUptoRow : OpenClaim := { program := "ytcdbodpmcnebiaa", sum := "ff57f61baf6b2b8efd97a1e15db6f97d076fb836cb44cccf0f46f3064230214d", func := "annunciator/annunciatorlaw9.CntUp", spec := "cntUp", unfollowed := true, recurses := true, apart := false, narrowed := true }
def CntUpUptoSaid : Prop := cntUpUptoRow.holds Try.pinned (OpenSpec.upto cntUpSpec)

/-- 'annunciatorlaw9.CntDown', WHERE WHAT IT READS IS OF BULK AT MOST 1048576: true; the input reads as it did. -/
def cntDownUptoRow : OpenClaim := { program := "ytcdbodpmcnebiaa", sum := "ff57f61baf6b2b8efd97a1e15db6f97d076fb836cb44cccf0f46f3064230214d", func := "annunciator/annunciatorlaw9.CntDown", spec := "cntDown", unfollowed := true, recurses := true, apart := false, narrowed := true }
def CntDownUptoSaid : Prop := cntDownUptoRow.holds Try.pinned (OpenSpec.upto cntDownSpec)

/-- 'annunciatorlaw9.CntEdges', WHERE WHAT IT READS IS OF BULK AT MOST 1048576: true; the input reads as it did. -/
def cntEdgesUptoRow : OpenClaim := { program := "ytcdbodpmcnebiaa", sum := "ff57f61baf6b2b8efd97a1e15db6f97d076fb836cb44cccf0f46f3064230214d", func := "annunciator/annunciatorlaw9.CntEdges", spec := "cntEdges", unfollowed := true, recurses := true, apart := false, narrowed := true }
def CntEdgesUptoSaid : Prop := cntEdgesUptoRow.holds Try.pinned (OpenSpec.upto cntEdgesSpec)

/-- 'annunciatorlaw9.CntForms', WHERE WHAT IT READS IS OF BULK AT MOST 1048576: true; the input reads as it did. -/
def cntFormsUptoRow : OpenClaim := { program := "ytcdbodpmcnebiaa", sum := "ff57f61baf6b2b8efd97a1e15db6f97d076fb836cb44cccf0f46f3064230214d", func := "annunciator/annunciatorlaw9.CntForms", spec := "cntForms", unfollowed := true, recurses := true, apart := false, narrowed := true }
def CntFormsUptoSaid : Prop := cntFormsUptoRow.holds Try.pinned (OpenSpec.upto cntFormsSpec)

/-- 'annunciatorlaw9.CntAll', WHERE WHAT IT READS IS OF BULK AT MOST 1048576: true; the input reads as it did. -/
def cntAllUptoRow : OpenClaim := { program := "ytcdbodpmcnebiaa", sum := "ff57f61baf6b2b8efd97a1e15db6f97d076fb836cb44cccf0f46f3064230214d", func := "annunciator/annunciatorlaw9.CntAll", spec := "cntAll", inPlace := ["math.Float64bits"], unfollowed := true, recurses := true, apart := false, narrowed := true }
def CntAllUptoSaid : Prop := cntAllUptoRow.holds Try.pinned (OpenSpec.upto cntAllSpec)

end Rows
end Go.Proofs.Ytcdbodpmcnebiaa
