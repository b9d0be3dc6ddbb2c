/-
  SesnForms: rounds of its loop.
-/
import Derived.Test.YtfghnjjmfcnhoaaSesnFS
set_option linter.unusedVariables false
set_option maxRecDepth 1000000
namespace Go.Proofs.Ytfghnjjmfcnhoaa.Ev
open Go Go.Proofs
theorem sr2 (β : Bs) (N : Kt) : roundJ Try.prog toldB 100 60 β (fun _ => 0) (cnOf 0 fun _ => []) (fun _ _ => False) 3 0 0 lvS FS2 SS2 N = N .normal FS3 SS3 := by kernel_rfl
theorem sr3 (β : Bs) (N : Kt) : roundJ Try.prog toldB 100 60 β (fun _ => 0) (cnOf 0 fun _ => []) (fun _ _ => False) 3 0 0 lvS FS3 SS3 N = N .normal FS4 SS4 := by kernel_rfl
end Go.Proofs.Ytfghnjjmfcnhoaa.Ev
