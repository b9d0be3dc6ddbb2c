/-
  FramAll: what has to hold holds.
-/
import Derived.Test.YtiodkfbmcnfooaaFrAV
set_option linter.unusedVariables false
set_option linter.unusedSimpArgs false
set_option maxRecDepth 100000
namespace Go.Proofs.Ytiodkfbmcnfooaa.Ev
open Go Go.Proofs Go.RowKit

theorem lU (l : List U8) (c : Nat) : listT U8 (Td.fr 1 l.length c (encL l)) = l := listT_tdL l c
theorem ok1U {l : List U8} {c : Nat} (hok : l.all (okA U8) = true) (hl : l.length ≤ 1000000) (hc : c ≤ 1) : ok1 U8 (fun l _ => l.all (okA U8)) [Ta.cell (Td.fr 1 l.length c (encL l))] = true := (RowU.enc l).ok1 hok hl hc
theorem framAll_law {l m : List U8} {c d : Nat} (hc : c ≤ 1) (hd : d ≤ 1) (hl : l.all (okA U8) = true) (hm : m.all (okA U8) = true) (w : World) (args' : Array Value) (ha : PW (TR w (There w)) [tdL l c, tdL m d] args'.toList) :
    Calls Try.prog 3 args' w fun e w' => e = .returned (.bool true) ∧ Below w.heap.size w w' := by
  refine law_top (C := toldQ) (fuel := 100) (n := 20) (un := fun _ => 8) (lvs := fun _ => []) (ex := fun _ _ => False) follows toldQ_ok (fun β hβ => ?_) w args' ha
  show lawE _ _ _ _ _ _ (cnOf 2 fun _ => []) _ _ [.slice (some ⟨0, 0, some 0⟩) l.length c, .slice (some ⟨1, 0, some 0⟩) m.length d] (mkS [some (rowO .still l), some (rowO .still m)]) trueE
  rw [vc_fa]
  refine br_of (fun _ => trivial) (fun q1 => br_of (fun _ => trivial) (fun q2 => ?_))
  have o1 := ok1U hl (by simp at q1; omega) hc
  have o2 := ok1U hm (by simp at q2; omega) hd
  simp only [encZ, Nat.zero_add, bleS, Bool.true_and, need_t, o1, o2, lU, allB_all, beq_self_eq_true]
end Go.Proofs.Ytiodkfbmcnfooaa.Ev
