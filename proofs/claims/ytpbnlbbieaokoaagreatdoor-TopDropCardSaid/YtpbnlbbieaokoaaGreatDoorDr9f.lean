/-
  TopDrop along one way: 9 rounds, it does not.
-/
import Derived.Test.YtpbnlbbieaokoaaGreatDoorDrE
set_option maxRecDepth 1000000
namespace Go.Proofs.YtpbnlbbieaokoaaGreatDoor.Ev
open Go
theorem drop9f (s : Int) : wayB Tryz.prog toldV 6 [.int .u8 s, .bool false] 23 [true, true, true, true, true, true, true, true, true, false] = (true, [(dropE s 0, true), (dropE s 1, true), (dropE s 2, true), (dropE s 3, true), (dropE s 4, true), (dropE s 5, true), (dropE s 6, true), (dropE s 7, true), (dropE s 8, true), (dropE s 9, false)]) := by kernel_rfl
end Go.Proofs.YtpbnlbbieaokoaaGreatDoor.Ev
