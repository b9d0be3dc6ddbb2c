/-
  TopDrop along one way: 0 rounds, it comes again.
-/
import Derived.Test.YtpbnlbbieaokoaaGreatDoorDrE
set_option maxRecDepth 1000000
namespace Go.Proofs.YtpbnlbbieaokoaaGreatDoor.Ev
open Go
theorem drop0t (s : Int) : wayB Tryz.prog toldV 6 [.int .u8 s, .bool true] 23 [false] = (true, [(dropE s 0, false)]) := by kernel_rfl
end Go.Proofs.YtpbnlbbieaokoaaGreatDoor.Ev
