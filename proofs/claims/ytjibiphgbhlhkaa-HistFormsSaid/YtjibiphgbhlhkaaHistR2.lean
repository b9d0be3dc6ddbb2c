/-
  HistForms: each round of its loop, an equation.
-/
import Derived.Test.YtjibiphgbhlhkaaHistFS
set_option linter.unusedVariables false
set_option maxRecDepth 1000000
namespace Go.Proofs.Ytjibiphgbhlhkaa.Ev
open Go Go.Proofs
theorem hr4 (β : Bs) (N : Kt) : roundJ Try.prog toldB 100 60 β (fun _ => 0) (cnOf 0 fun _ => []) (fun _ _ => False) 5 0 0 lvH (FH 4) SH N = N .normal (FH 5) SH := by kernel_rfl
theorem hr5 (β : Bs) (N : Kt) : roundJ Try.prog toldB 100 60 β (fun _ => 0) (cnOf 0 fun _ => []) (fun _ _ => False) 5 0 0 lvH (FH 5) SH N = N .normal (FH 6) SH := by kernel_rfl
end Go.Proofs.Ytjibiphgbhlhkaa.Ev
