/-
  Rows of values: small facts.
-/
import Derived.Test.YtaceobjppcmhjaaClV
set_option linter.unusedVariables false
set_option linter.unusedSimpArgs false
namespace Go.Proofs.Ytaceobjppcmhjaa.Ev
open Go Go.Proofs Go.RowKit

theorem sameVl_self (a : Vl) : sameVl a a = true := by simp [sameVl, same_self]
theorem sameVs_self (l : List Vl) : sameVs l l = true := by simp [sameVs, sameVl_self]
theorem ok2_vl {l m : List Vl} {c d : Nat} (h1 : l.length ≤ 1000000) (h2 : m.length ≤ 1000000) (h3 : c ≤ 1) (h4 : d ≤ 1) : ok2 Vl Vl (fun _ _ _ _ => true) [Ta.cell (Td.fr 3 l.length c (encL l)), Ta.cell (Td.fr 3 m.length d (encL m))] = true := by
  show (okT Vl (tdL l c) && okT Vl (tdL m d) && true) = true
  rw [okT_tdL (allV _) h1 h3, okT_tdL (allV _) h2 h4]; rfl
theorem lV (l : List Vl) (c : Nat) : listT Vl (Td.fr 3 l.length c (encL l)) = l := listT_tdL l c
theorem esV : Enc.es Vl = 3 := rfl
end Go.Proofs.Ytaceobjppcmhjaa.Ev
