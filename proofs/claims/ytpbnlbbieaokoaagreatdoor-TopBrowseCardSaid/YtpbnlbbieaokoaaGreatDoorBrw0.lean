/-
  TopBrowse along one way: 0 scans go by each time.
-/
import Derived.Test.YtpbnlbbieaokoaaGreatDoorBrE
set_option maxRecDepth 1000000
namespace Go.Proofs.YtpbnlbbieaokoaaGreatDoor.Ev
open Go
theorem brow0 (s : Int) : wayB Tryz.prog toldW0 5 [.int .u8 s] 38 [false, false] = (true, [(browE s 0, false), (browE s 0, false)]) := by kernel_rfl
end Go.Proofs.YtpbnlbbieaokoaaGreatDoor.Ev
