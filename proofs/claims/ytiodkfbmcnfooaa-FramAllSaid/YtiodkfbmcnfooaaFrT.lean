/-
  Put told.
-/
import Derived.Test.YtiodkfbmcnfooaaFrPu
namespace Go.Proofs.Ytiodkfbmcnfooaa.Ev
open Go
def toldP : Told := (toldE.tree 8 (ok1 U8 fun l _ => l.all (okA U8)) (ans1 U8 putA)).tree 9 (ok1 U8 fun l _ => l.all (okA U8)) (ans1 U8 putA)
theorem toldP_ok : ToldS Try.prog toldP := Told.tree_ok (Told.tree_ok toldE_ok put_told) putr_told
end Go.Proofs.Ytiodkfbmcnfooaa.Ev
