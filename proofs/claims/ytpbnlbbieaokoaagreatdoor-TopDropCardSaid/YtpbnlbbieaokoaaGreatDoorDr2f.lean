/-
  TopDrop along one way: 2 rounds, it does not.
-/
import Derived.Test.YtpbnlbbieaokoaaGreatDoorDrE
set_option maxRecDepth 1000000
namespace Go.Proofs.YtpbnlbbieaokoaaGreatDoor.Ev
open Go
theorem drop2f (s : Int) : wayB Tryz.prog toldV 6 [.int .u8 s, .bool false] 23 [true, true, false] = (true, [(dropE s 0, true), (dropE s 1, true), (dropE s 2, false)]) := by kernel_rfl
end Go.Proofs.YtpbnlbbieaokoaaGreatDoor.Ev
