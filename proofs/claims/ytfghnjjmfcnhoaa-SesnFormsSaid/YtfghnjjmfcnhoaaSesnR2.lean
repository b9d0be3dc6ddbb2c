/-
  SesnForms: rounds of its loop.
-/
import Derived.Test.YtfghnjjmfcnhoaaSesnFS
set_option linter.unusedVariables false
set_option maxRecDepth 1000000
namespace Go.Proofs.Ytfghnjjmfcnhoaa.Ev
open Go Go.Proofs
theorem sr4 (β : Bs) (N : Kt) : roundJ Try.prog toldB 100 60 β (fun _ => 0) (cnOf 0 fun _ => []) (fun _ _ => False) 3 0 0 lvS FS4 SS4 N = N .normal FS5 SS5 := by kernel_rfl
theorem sr5 (β : Bs) (N : Kt) : roundJ Try.prog toldB 100 60 β (fun _ => 0) (cnOf 0 fun _ => []) (fun _ _ => False) 3 0 0 lvS FS5 SS5 N = N .normal FS6 SS6 := by kernel_rfl
theorem sr6 (β : Bs) (N : Kt) : roundJ Try.prog toldB 100 60 β (fun _ => 0) (cnOf 0 fun _ => []) (fun _ _ => False) 3 0 0 lvS FS6 SS6 N = N (.exit 0) FS7 SS7 := by kernel_rfl
end Go.Proofs.Ytfghnjjmfcnhoaa.Ev
