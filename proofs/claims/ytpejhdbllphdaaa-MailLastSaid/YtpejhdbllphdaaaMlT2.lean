/-
  mail.twin told to the evaluator. And a row in which one is put.
-/
import Derived.Test.YtpejhdbllphdaaaMlT
set_option linter.unusedVariables false
set_option linter.unusedSimpArgs false
namespace Go.Proofs.Ytpejhdbllphdaaa.Ev
open Go Go.Proofs Go.RowKit

def toldT : Told := toldC.tree 15 (ok1 Wr fun l _ => l.all (okA Wr)) (ans1 Wr fun l _ => .ret (.cell (ownL l 1)))
theorem toldT_ok : ToldS Try.prog toldT := Told.tree_ok toldC_ok twin_told
end Go.Proofs.Ytpejhdbllphdaaa.Ev
