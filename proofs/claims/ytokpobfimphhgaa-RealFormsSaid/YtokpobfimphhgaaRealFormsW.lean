/-
  The closed law RealForms answers true, and leaves what there was as it was. No condition.
-/
import Derived.Test.YtokpobfimphhgaaEvY
namespace Go.Proofs.Ytokpobfimphhgaa
open Go Go.RowKit
set_option maxRecDepth 1000000
theorem forms_law (w : World) : Calls Try.prog 6 #[] w fun e w' => e = .returned (.bool true) ∧ Below w.heap.size w w' :=
  Ev.closed_true (by kernel_rfl) (by kernel_rfl) w
end Go.Proofs.Ytokpobfimphhgaa
