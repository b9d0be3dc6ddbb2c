/-
  No cell of these rows narrows 'for every input' (looked for: loops, veiled, ifaces, maps, wideKeys, modest, calm, conditions, laid).
  DERIVED. THE GIVEN ROWS OF THIS SEAT. 4 by the template 'for every input the law returns true; each argument reads behind the call as it read before'; 0 by the template 'total and deterministic' (their statements: YtiodkfbmcnfooaaTotals.lean).
  GIVEN WITH THE SEED: the statements are not yours to turn. If you find one false, say at which input.
  Laid BY PROGRAM, IN A SANDBOX (cutbox-rows.mjs): the forced cells as the released guide's own fill.sh prints them over the translation e22cd5fcf3765a47… (all of the seat's roots in one cut). By AI agents, Wed Nov 11 2026. No macro, syntax, notation, axiom, sorry.
-/
import Derived.Test.YtiodkfbmcnfooaaChecked
import GoSem.Claim
import GoSem.ClaimJoined
import GoSem.ClaimMapViews
import Derived.JoinedTies
import Derived.KernelRfl
namespace Go.Proofs.Ytiodkfbmcnfooaa
/- THE CELL 'sum', in the pinned program and in every row, IS THE sha256 OF THE DUMP (.gsa) THAT YtiodkfbmcnfooaaProg.lean LOADS. Nothing in Lean hashes anything: it is a label: what it is worth is what the hold of that sum in a sandbox is worth. -/
noncomputable def Try.pinned : Pinned := { name := "ytiodkfbmcnfooaa", sum := "e22cd5fcf3765a47f9d0a3c35ed9d56c754c7a854c9cf313d48d6cb1db5bec19", checked := Try.checked }
namespace Rows
def none {H : Type} : Left H := { results := [], args := [] }

/-- 'annunciatorlaw17.FramAll': WHATEVER THE INPUT: true; the input reads as it did. -/
def framAllSpec : ChangeSpec := { name := "framAll", fn := fun _ => fun
  | [d1, d2] => { results := [.lit (.bool true)], args := [d1, d2] }
  | _ => none }
def framAllRow : OpenClaim := { program := "ytiodkfbmcnfooaa", sum := "e22cd5fcf3765a47f9d0a3c35ed9d56c754c7a854c9cf313d48d6cb1db5bec19", func := "annunciator/annunciatorlaw17.FramAll", spec := "framAll", apart := false }
def FramAllSaid : Prop := framAllRow.holds Try.pinned (OpenSpec.ofChange framAllSpec)

/-- ITS FALSE NEIGHBOUR: 'it returns false'. Refute it at one input. -/
def framAllWrong : ChangeSpec := { name := "framAll", fn := fun _ => fun
  | [d1, d2] => { results := [.lit (.bool false)], args := [d1, d2] }
  | _ => none }
def FramAllWrongFalsely : Prop := framAllRow.holds Try.pinned (OpenSpec.ofChange framAllWrong)

/-- 'annunciatorlaw17.FramTurned': WHATEVER THE INPUT: true; the input reads as it did. -/
def framTurnedSpec : ChangeSpec := { name := "framTurned", fn := fun _ => fun
  | [d1, d2, d3, d4] => { results := [.lit (.bool true)], args := [d1, d2, d3, d4] }
  | _ => none }
def framTurnedRow : OpenClaim := { program := "ytiodkfbmcnfooaa", sum := "e22cd5fcf3765a47f9d0a3c35ed9d56c754c7a854c9cf313d48d6cb1db5bec19", func := "annunciator/annunciatorlaw17.FramTurned", spec := "framTurned", apart := false }
def FramTurnedSaid : Prop := framTurnedRow.holds Try.pinned (OpenSpec.ofChange framTurnedSpec)

/-- ITS FALSE NEIGHBOUR: 'it returns false'. Refute it at one input. -/
def framTurnedWrong : ChangeSpec := { name := "framTurned", fn := fun _ => fun
  | [d1, d2, d3, d4] => { results := [.lit (.bool false)], args := [d1, d2, d3, d4] }
  | _ => none }
def FramTurnedWrongFalsely : Prop := framTurnedRow.holds Try.pinned (OpenSpec.ofChange framTurnedWrong)

/-- 'annunciatorlaw17.FramForms': WHATEVER THE INPUT: true; the input reads as it did. -/
def framFormsSpec : ChangeSpec := { name := "framForms", fn := fun _ => fun
  | [] => { results := [.lit (.bool true)], args := [] }
  | _ => none }
def framFormsRow : OpenClaim := { program := "ytiodkfbmcnfooaa", sum := "e22cd5fcf3765a47f9d0a3c35ed9d56c754c7a854c9cf313d48d6cb1db5bec19", func := "annunciator/annunciatorlaw17.FramForms", spec := "framForms", apart := false }
def FramFormsSaid : Prop := framFormsRow.holds Try.pinned (OpenSpec.ofChange framFormsSpec)

/-- ITS FALSE NEIGHBOUR: 'it returns false'. Refute it at one input. -/
def framFormsWrong : ChangeSpec := { name := "framForms", fn := fun _ => fun
  | [] => { results := [.lit (.bool false)], args := [] }
  | _ => none }
def FramFormsWrongFalsely : Prop := framFormsRow.holds Try.pinned (OpenSpec.ofChange framFormsWrong)

/-- 'annunciatorlaw17.FramApart': WHATEVER THE INPUT: true; the input reads as it did. -/
def framApartSpec : ChangeSpec := { name := "framApart", fn := fun _ => fun
  | [d1, d2] => { results := [.lit (.bool true)], args := [d1, d2] }
  | _ => none }
def framApartRow : OpenClaim := { program := "ytiodkfbmcnfooaa", sum := "e22cd5fcf3765a47f9d0a3c35ed9d56c754c7a854c9cf313d48d6cb1db5bec19", func := "annunciator/annunciatorlaw17.FramApart", spec := "framApart", apart := false }
def FramApartSaid : Prop := framApartRow.holds Try.pinned (OpenSpec.ofChange framApartSpec)

/-- ITS FALSE NEIGHBOUR: 'it returns false'. Refute it at one input. -/
def framApartWrong : ChangeSpec := { name := "framApart", fn := fun _ => fun
  | [d1, d2] => { results := [.lit (.bool false)], args := [d1, d2] }
  | _ => none }
def FramApartWrongFalsely : Prop := framApartRow.holds Try.pinned (OpenSpec.ofChange framApartWrong)

/- THE SECOND FORM. 'bulk': how many values and letters a reading holds, each counted each time it is reached (what is shared counts as often as it is met; a slice's spare places count too). A statement '..UptoSaid' is the law's where the arguments, and the package variables that the reading takes, are together of bulk at most 1048576: NARROWER than '..Said'. Prove '..Said' where nothing that the law and all that it calls make is longer than what came in: it says more and counts as full. Else prove '..UptoSaid'. A law counts once. -/
mutual
def uptoBulk {H : Type} : DataW H → Nat
  | .lit (.string bytes) => bytes.length + 1
  | .lit _ => 1
  | .nil => 1
  | .ptr d => uptoBulk d + 1
  | .slice elems spare => uptoBulkAll elems + uptoBulkAll spare + 1
  | .agg parts => uptoBulkAll parts + 1
  | .iface _ d => uptoBulk d + 1
  | .map entries => uptoBulkEntries entries + 1
  | .held _ => 1
def uptoBulkAll {H : Type} : List (DataW H) → Nat
  | [] => 0
  | d :: r => uptoBulk d + uptoBulkAll r
def uptoBulkEntries {H : Type} : List (Lit × DataW H) → Nat
  | [] => 0
  | x :: r => uptoBulkEntry x + uptoBulkEntries r
def uptoBulkEntry {H : Type} : Lit × DataW H → Nat
  | (.string bytes, d) => bytes.length + uptoBulk d + 1
  | (_, d) => uptoBulk d + 1
 end
def uptoSmall : (H : Type) → List (DataW H) → Bool := fun _ ds => decide (uptoBulkAll ds ≤ 1048576)
def OpenSpec.upto (s : _root_.Go.ChangeSpec) : _root_.Go.OpenSpec := { _root_.Go.OpenSpec.ofChange s with cond := some uptoSmall }

/-- 'annunciatorlaw17.FramAll', WHERE WHAT IT READS IS OF BULK AT MOST 1048576: true; the input reads as it did. -/
def framAllUptoRow : OpenClaim := { program := "ytiodkfbmcnfooaa", sum := "e22cd5fcf3765a47f9d0a3c35ed9d56c754c7a854c9cf313d48d6cb1db5bec19", func := "annunciator/annunciatorlaw17.FramAll", spec := "framAll", apart := false, narrowed := true }
def FramAllUptoSaid : Prop := framAllUptoRow.holds Try.pinned (OpenSpec.upto framAllSpec)

/-- 'annunciatorlaw17.FramTurned', WHERE WHAT IT READS IS OF BULK AT MOST 1048576: true; the input reads as it did. -/
def framTurnedUptoRow : OpenClaim := { program := "ytiodkfbmcnfooaa", sum := "e22cd5fcf3765a47f9d0a3c35ed9d56c754c7a854c9cf313d48d6cb1db5bec19", func := "annunciator/annunciatorlaw17.FramTurned", spec := "framTurned", apart := false, narrowed := true }
def FramTurnedUptoSaid : Prop := framTurnedUptoRow.holds Try.pinned (OpenSpec.upto framTurnedSpec)

/-- 'annunciatorlaw17.FramForms', WHERE WHAT IT READS IS OF BULK AT MOST 1048576: true; the input reads as it did. -/
def framFormsUptoRow : OpenClaim := { program := "ytiodkfbmcnfooaa", sum := "e22cd5fcf3765a47f9d0a3c35ed9d56c754c7a854c9cf313d48d6cb1db5bec19", func := "annunciator/annunciatorlaw17.FramForms", spec := "framForms", apart := false, narrowed := true }
def FramFormsUptoSaid : Prop := framFormsUptoRow.holds Try.pinned (OpenSpec.upto framFormsSpec)

/-- 'annunciatorlaw17.FramApart', WHERE WHAT IT READS IS OF BULK AT MOST 1048576: true; the input reads as it did. -/
def framApartUptoRow : OpenClaim := { program := "ytiodkfbmcnfooaa", sum := "e22cd5fcf3765a47f9d0a3c35ed9d56c754c7a854c9cf313d48d6cb1db5bec19", func := "annunciator/annunciatorlaw17.FramApart", spec := "framApart", apart := false, narrowed := true }
def FramApartUptoSaid : Prop := framApartUptoRow.holds Try.pinned (OpenSpec.upto framApartSpec)

end Rows
end Go.Proofs.Ytiodkfbmcnfooaa
