/-
  The contract of crc.table: its sixteen numbers.
-/
import Derived.Test.YtpogcoolgnjejaaGreatDoorRows
import Derived.WalkKit
import Derived.WalkSpells
import Derived.WalkLawsBesides
import Derived.LoopN
import Derived.Laws.BitsAllLaws
namespace Go.Proofs.YtpogcoolgnjejaaGreatDoor
open Go.RowKit

def tabA : Array Value := #[.int .u32 0, .int .u32 498536548, .int .u32 997073096, .int .u32 651767980, .int .u32 1994146192, .int .u32 1802195444, .int .u32 1303535960, .int .u32 1342533948, .int .u32 3988292384, .int .u32 4027552580, .int .u32 3604390888, .int .u32 3412177804, .int .u32 2607071920, .int .u32 2262029012, .int .u32 2685067896, .int .u32 3183342108]

section
attribute [local go_sem] u32_xor u32_and
set_option maxHeartbeats 40000000 in
set_option maxRecDepth 100000 in
theorem table_any (w : World) :
    Calls Tryz.prog 334 #[] w fun e w' => e = .returned (.agg tabA) ∧ w' = w.alloc (.cells tabA 421) := by
  go_enter Tryz.func334, Tryz.ntmps334
  go_wp2
  refine wp_loop_rounds 17 ?_
  iterate 16 (rw [rounds_succ]; go_wp2; refine wp_loop_rounds 5 ?_; iterate 5 (rw [rounds_succ]; go_wp2))
  rw [rounds_succ]
  go_wp2
  exact bodyPost_ret (v := .agg tabA) (by simp [results, Tryz.results334, go_sem, tabA]) rfl ⟨rfl, rfl⟩
end

end Go.Proofs.YtpogcoolgnjejaaGreatDoor
