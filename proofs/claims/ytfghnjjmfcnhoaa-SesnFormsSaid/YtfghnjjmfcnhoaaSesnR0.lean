/-
  SesnForms: rounds of its loop.
-/
import Derived.Test.YtfghnjjmfcnhoaaSesnFS
set_option linter.unusedVariables false
set_option maxRecDepth 1000000
namespace Go.Proofs.Ytfghnjjmfcnhoaa.Ev
open Go Go.Proofs
theorem sr0 (β : Bs) (N : Kt) : roundJ Try.prog toldB 100 60 β (fun _ => 0) (cnOf 0 fun _ => []) (fun _ _ => False) 3 0 0 lvS FS0 SS0 N = N .normal FS1 SS1 := by kernel_rfl
theorem sr1 (β : Bs) (N : Kt) : roundJ Try.prog toldB 100 60 β (fun _ => 0) (cnOf 0 fun _ => []) (fun _ _ => False) 3 0 0 lvS FS1 SS1 N = N .normal FS2 SS2 := by kernel_rfl
end Go.Proofs.Ytfghnjjmfcnhoaa.Ev
