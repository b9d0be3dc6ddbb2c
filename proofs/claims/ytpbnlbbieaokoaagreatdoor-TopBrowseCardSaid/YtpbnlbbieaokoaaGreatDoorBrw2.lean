/-
  TopBrowse along one way: 2 scans go by each time.
-/
import Derived.Test.YtpbnlbbieaokoaaGreatDoorBrE
set_option maxRecDepth 1000000
namespace Go.Proofs.YtpbnlbbieaokoaaGreatDoor.Ev
open Go
theorem brow2 (s : Int) : wayB Tryz.prog toldW2 5 [.int .u8 s] 38 [true, true, false, true, true, false] = (true, [(browE s 0, true), (browE s 1, true), (browE s 2, false), (browE s 0, true), (browE s 1, true), (browE s 2, false)]) := by kernel_rfl
end Go.Proofs.YtpbnlbbieaokoaaGreatDoor.Ev
