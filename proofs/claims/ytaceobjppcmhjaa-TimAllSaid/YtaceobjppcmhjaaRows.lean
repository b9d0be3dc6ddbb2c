/-
  No cell of these rows narrows 'for every input' (looked for: loops, veiled, ifaces, maps, wideKeys, modest, calm, conditions, laid).
  DERIVED. THE GIVEN ROWS OF THIS SEAT. 5 by the template 'for every input the law returns true; each argument reads behind the call as it read before'; 0 by the template 'total and deterministic' (their statements: YtaceobjppcmhjaaTotals.lean).
  GIVEN WITH THE SEED: the statements are not yours to turn. If you find one false, say at which input.
  Laid BY PROGRAM, IN A SANDBOX (cutbox-rows.mjs): the forced cells as the released guide's own fill.sh prints them over the translation 31fe89b11ff59a67… (all of the seat's roots in one cut). By AI agents, Wed Nov 11 2026. No macro, syntax, notation, axiom, sorry.
-/
import Derived.Test.YtaceobjppcmhjaaChecked
import GoSem.Claim
import GoSem.ClaimJoined
import GoSem.ClaimMapViews
import Derived.JoinedTies
import Derived.KernelRfl
namespace Go.Proofs.Ytaceobjppcmhjaa
/- THE CELL 'sum', in the pinned program and in every row, IS THE sha256 OF THE DUMP (.gsa) THAT YtaceobjppcmhjaaProg.lean LOADS. Nothing in Lean hashes anything: it is a label: what it is worth is what the hold of that sum in a sandbox is worth. -/
noncomputable def Try.pinned : Pinned := { name := "ytaceobjppcmhjaa", sum := "31fe89b11ff59a6786528defb9f57f59f7da358cc5535baf258705ad4a802728", checked := Try.checked }
namespace Rows
def none {H : Type} : Left H := { results := [], args := [] }

/-- 'annunciatorlaw8.TimOn': WHATEVER THE INPUT: true; the input reads as it did. -/
def timOnSpec : ChangeSpec := { name := "timOn", fn := fun _ => fun
  | [d1, d2] => { results := [.lit (.bool true)], args := [d1, d2] }
  | _ => none }
def timOnRow : OpenClaim := { program := "ytaceobjppcmhjaa", sum := "31fe89b11ff59a6786528defb9f57f59f7da358cc5535baf258705ad4a802728", func := "annunciator/annunciatorlaw8.TimOn", spec := "timOn", unfollowed := true, recurses := true, apart := false }
def TimOnSaid : Prop := timOnRow.holds Try.pinned (OpenSpec.ofChange timOnSpec)

/-- ITS FALSE NEIGHBOUR: 'it returns false'. Refute it at one input. -/
def timOnWrong : ChangeSpec := { name := "timOn", fn := fun _ => fun
  | [d1, d2] => { results := [.lit (.bool false)], args := [d1, d2] }
  | _ => none }
def TimOnWrongFalsely : Prop := timOnRow.holds Try.pinned (OpenSpec.ofChange timOnWrong)

/-- 'annunciatorlaw8.TimOff': WHATEVER THE INPUT: true; the input reads as it did. -/
def timOffSpec : ChangeSpec := { name := "timOff", fn := fun _ => fun
  | [d1, d2] => { results := [.lit (.bool true)], args := [d1, d2] }
  | _ => none }
def timOffRow : OpenClaim := { program := "ytaceobjppcmhjaa", sum := "31fe89b11ff59a6786528defb9f57f59f7da358cc5535baf258705ad4a802728", func := "annunciator/annunciatorlaw8.TimOff", spec := "timOff", unfollowed := true, recurses := true, apart := false }
def TimOffSaid : Prop := timOffRow.holds Try.pinned (OpenSpec.ofChange timOffSpec)

/-- ITS FALSE NEIGHBOUR: 'it returns false'. Refute it at one input. -/
def timOffWrong : ChangeSpec := { name := "timOff", fn := fun _ => fun
  | [d1, d2] => { results := [.lit (.bool false)], args := [d1, d2] }
  | _ => none }
def TimOffWrongFalsely : Prop := timOffRow.holds Try.pinned (OpenSpec.ofChange timOffWrong)

/-- 'annunciatorlaw8.TimPulse': WHATEVER THE INPUT: true; the input reads as it did. -/
def timPulseSpec : ChangeSpec := { name := "timPulse", fn := fun _ => fun
  | [d1, d2] => { results := [.lit (.bool true)], args := [d1, d2] }
  | _ => none }
def timPulseRow : OpenClaim := { program := "ytaceobjppcmhjaa", sum := "31fe89b11ff59a6786528defb9f57f59f7da358cc5535baf258705ad4a802728", func := "annunciator/annunciatorlaw8.TimPulse", spec := "timPulse", unfollowed := true, recurses := true, apart := false }
def TimPulseSaid : Prop := timPulseRow.holds Try.pinned (OpenSpec.ofChange timPulseSpec)

/-- ITS FALSE NEIGHBOUR: 'it returns false'. Refute it at one input. -/
def timPulseWrong : ChangeSpec := { name := "timPulse", fn := fun _ => fun
  | [d1, d2] => { results := [.lit (.bool false)], args := [d1, d2] }
  | _ => none }
def TimPulseWrongFalsely : Prop := timPulseRow.holds Try.pinned (OpenSpec.ofChange timPulseWrong)

/-- 'annunciatorlaw8.TimForms': WHATEVER THE INPUT: true; the input reads as it did. -/
def timFormsSpec : ChangeSpec := { name := "timForms", fn := fun _ => fun
  | [] => { results := [.lit (.bool true)], args := [] }
  | _ => none }
def timFormsRow : OpenClaim := { program := "ytaceobjppcmhjaa", sum := "31fe89b11ff59a6786528defb9f57f59f7da358cc5535baf258705ad4a802728", func := "annunciator/annunciatorlaw8.TimForms", spec := "timForms", unfollowed := true, recurses := true, apart := false }
def TimFormsSaid : Prop := timFormsRow.holds Try.pinned (OpenSpec.ofChange timFormsSpec)

/-- ITS FALSE NEIGHBOUR: 'it returns false'. Refute it at one input. -/
def timFormsWrong : ChangeSpec := { name := "timForms", fn := fun _ => fun
  | [] => { results := [.lit (.bool false)], args := [] }
  | _ => none }
def TimFormsWrongFalsely : Prop := timFormsRow.holds Try.pinned (OpenSpec.ofChange timFormsWrong)

/-- 'annunciatorlaw8.TimAll': WHATEVER THE INPUT: true; the input reads as it did. -/
def timAllSpec : ChangeSpec := { name := "timAll", fn := fun _ => fun
  | [d1, d2, d3, d4, d5, d6, d7, d8, d9] => { results := [.lit (.bool true)], args := [d1, d2, d3, d4, d5, d6, d7, d8, d9] }
  | _ => none }
def timAllRow : OpenClaim := { program := "ytaceobjppcmhjaa", sum := "31fe89b11ff59a6786528defb9f57f59f7da358cc5535baf258705ad4a802728", func := "annunciator/annunciatorlaw8.TimAll", spec := "timAll", inPlace := ["math.Float64bits"], unfollowed := true, recurses := true, apart := false }
def TimAllSaid : Prop := timAllRow.holds Try.pinned (OpenSpec.ofChange timAllSpec)

/-- ITS FALSE NEIGHBOUR: 'it returns false'. Refute it at one input. -/
def timAllWrong : ChangeSpec := { name := "timAll", fn := fun _ => fun
  | [d1, d2, d3, d4, d5, d6, d7, d8, d9] => { results := [.lit (.bool false)], args := [d1, d2, d3, d4, d5, d6, d7, d8, d9] }
  | _ => none }
def TimAllWrongFalsely : Prop := timAllRow.holds Try.pinned (OpenSpec.ofChange timAllWrong)

/- THE SECOND FORM. 'bulk': how many values and letters a reading holds, each counted each time it is reached (what is shared counts as often as it is met; a slice's spare places count too). A statement '..UptoSaid' is the law's where the arguments, and the package variables that the reading takes, are together of bulk at most 1048576: NARROWER than '..Said'. Prove '..Said' where nothing that the law and all that it calls make is longer than what came in: it says more and counts as full. Else prove '..UptoSaid'. A law counts once. -/
mutual
def uptoBulk {H : Type} : DataW H → Nat
  | .lit (.string bytes) => bytes.length + 1
  | .lit _ => 1
  | .nil => 1
  | .ptr d => uptoBulk d + 1
  | .slice elems spare => uptoBulkAll elems + uptoBulkAll spare + 1
  | .agg parts => uptoBulkAll parts + 1
  | .iface _ d => uptoBulk d + 1
  | .map entries => uptoBulkEntries entries + 1
  | .held _ => 1
def uptoBulkAll {H : Type} : List (DataW H) → Nat
  | [] => 0
  | d :: r => uptoBulk d + uptoBulkAll r
def uptoBulkEntries {H : Type} : List (Lit × DataW H) → Nat
  | [] => 0
  | x :: r => uptoBulkEntry x + uptoBulkEntries r
def uptoBulkEntry {H : Type} : Lit × DataW H → Nat
  | (.string bytes, d) => bytes.length + uptoBulk d + 1
  | (_, d) => uptoBulk d + 1
 end
def uptoSmall : (H : Type) → List (DataW H) → Bool := fun _ ds => decide (uptoBulkAll ds ≤ 1048576)
def OpenSpec.upto (s : _root_.Go.ChangeSpec) : _root_.Go.OpenSpec := { _root_.Go.OpenSpec.ofChange s with cond := some uptoSmall }

/-- 'annunciatorlaw8.TimOn', WHERE WHAT IT READS IS OF BULK AT MOST 1048576: true; the input reads as it did. -/
def timOnUptoRow : OpenClaim := { program := "ytaceobjppcmhjaa", sum := "31fe89b11ff59a6786528defb9f57f59f7da358cc5535baf258705ad4a802728", func := "annunciator/annunciatorlaw8.TimOn", spec := "timOn", unfollowed := true, recurses := true, apart := false, narrowed := true }
def TimOnUptoSaid : Prop := timOnUptoRow.holds Try.pinned (OpenSpec.upto timOnSpec)

/-- 'annunciatorlaw8.TimOff', WHERE WHAT IT READS IS OF BULK AT MOST 1048576: true; the input reads as it did. -/
def timOffUptoRow : OpenClaim := { program := "ytaceobjppcmhjaa", sum := "31fe89b11ff59a6786528defb9f57f59f7da358cc5535baf258705ad4a802728", func := "annunciator/annunciatorlaw8.TimOff", spec := "timOff", unfollowed := true, recurses := true, apart := false, narrowed := true }
def TimOffUptoSaid : Prop := timOffUptoRow.holds Try.pinned (OpenSpec.upto timOffSpec)

/-- 'annunciatorlaw8.TimPulse', WHERE WHAT IT READS IS OF BULK AT MOST 1048576: true; the input reads as it did. -/
def timPulseUptoRow : OpenClaim := { program := "ytaceobjppcmhjaa", sum := "31fe89b11ff59a6786528defb9f57f59f7da358cc5535baf258705ad4a802728", func := "annunciator/annunciatorlaw8.TimPulse", spec := "timPulse", unfollowed := true, recurses := true, apart := false, narrowed := true }
def TimPulseUptoSaid : Prop := timPulseUptoRow.holds Try.pinned (OpenSpec.upto timPulseSpec)

/-- 'annunciatorlaw8.TimForms', WHERE WHAT IT READS IS OF BULK AT MOST 1048576: true; the input reads as it did. -/
def timFormsUptoRow : OpenClaim := { program := "ytaceobjppcmhjaa", sum := "31fe89b11ff59a6786528defb9f57f59f7da358cc5535baf258705ad4a802728", func := "annunciator/annunciatorlaw8.TimForms", spec := "timForms", unfollowed := true, recurses := true, apart := false, narrowed := true }
def TimFormsUptoSaid : Prop := timFormsUptoRow.holds Try.pinned (OpenSpec.upto timFormsSpec)

/-- 'annunciatorlaw8.TimAll', WHERE WHAT IT READS IS OF BULK AT MOST 1048576: true; the input reads as it did. -/
def timAllUptoRow : OpenClaim := { program := "ytaceobjppcmhjaa", sum := "31fe89b11ff59a6786528defb9f57f59f7da358cc5535baf258705ad4a802728", func := "annunciator/annunciatorlaw8.TimAll", spec := "timAll", inPlace := ["math.Float64bits"], unfollowed := true, recurses := true, apart := false, narrowed := true }
def TimAllUptoSaid : Prop := timAllUptoRow.holds Try.pinned (OpenSpec.upto timAllSpec)

end Rows
end Go.Proofs.Ytaceobjppcmhjaa
