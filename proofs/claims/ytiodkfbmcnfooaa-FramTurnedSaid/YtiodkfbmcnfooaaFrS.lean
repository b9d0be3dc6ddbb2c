/-
  Sums of bytes, slices.Clone of bytes: told to the evaluator.
-/
import Derived.Test.YtiodkfbmcnfooaaMailS
import Derived.Test.YtiodkfbmcnfooaaU8
set_option linter.unusedVariables false
set_option linter.unusedSimpArgs false
set_option maxRecDepth 1000000
namespace Go.Proofs.Ytiodkfbmcnfooaa.Ev
open Go Go.Proofs Go.RowKit

theorem csum_told : ToldW Try.prog 14 (ok1 U8 fun l _ => l.all (okA U8)) (ans1 U8 fun l _ => .ret (.cell (.sc (.int .u32 (Int.ofNat (refSum (natsU l))))))) := sum_told fun v bs w h => by rw [← crcSum_eq]; exact sum_anyW v bs w h
theorem rsum_told : ToldW Try.prog 16 (ok1 U8 fun l _ => l.all (okA U8)) (ans1 U8 fun l _ => .ret (.cell (.sc (.int .u32 (Int.ofNat (refSum (natsU l))))))) := sum_told fun v bs w h => (refSum_anyW v bs w h).mono fun e w' ⟨he, hw⟩ => ⟨he, by subst hw; exact Below.refl _ _⟩
theorem cloneU_told : ToldW Try.prog 20 (okC 1) (ansC 1) := clone_told follows (fun n c f β K => by kernel_rfl) (fun es' f β K => by kernel_rfl)
def toldU : Told := ((toldB.tree 14 (ok1 U8 fun l _ => l.all (okA U8)) (ans1 U8 fun l _ => .ret (.cell (.sc (.int .u32 (Int.ofNat (refSum (natsU l)))))))).tree 16 (ok1 U8 fun l _ => l.all (okA U8)) (ans1 U8 fun l _ => .ret (.cell (.sc (.int .u32 (Int.ofNat (refSum (natsU l)))))))).tree 20 (okC 1) (ansC 1)
theorem toldU_ok : ToldS Try.prog toldU := Told.tree_ok (Told.tree_ok (Told.tree_ok toldB_ok csum_told) rsum_told) cloneU_told
end Go.Proofs.Ytiodkfbmcnfooaa.Ev
