/-
  TopBrowse along one way: 1 scans go by each time.
-/
import Derived.Test.YtpbnlbbieaokoaaGreatDoorBrE
set_option maxRecDepth 1000000
namespace Go.Proofs.YtpbnlbbieaokoaaGreatDoor.Ev
open Go
theorem brow1 (s : Int) : wayB Tryz.prog toldW1 5 [.int .u8 s] 38 [true, false, true, false] = (true, [(browE s 0, true), (browE s 1, false), (browE s 0, true), (browE s 1, false)]) := by kernel_rfl
end Go.Proofs.YtpbnlbbieaokoaaGreatDoor.Ev
