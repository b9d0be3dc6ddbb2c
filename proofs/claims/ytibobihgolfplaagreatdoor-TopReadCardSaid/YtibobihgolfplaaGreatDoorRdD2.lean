/-
  TopRead: an answer is sent and looked at. (Printed by tools/read.py.)
-/
import Derived.Test.YtibobihgolfplaaGreatDoorJ4
set_option linter.unusedVariables false
set_option maxRecDepth 1000000
namespace Go.Proofs.YtibobihgolfplaaGreatDoor.Ev
open Go
theorem rdse5_4_1:RdSeL 5 4 [6,7,8,9,10,11]:=fun c L y G h v Nx=>by kernel_rfl
theorem rdse5_4_2:RdSeL 5 4 [12,13,14]:=fun c L y G h v Nx=>by kernel_rfl
theorem rdse5_5_0:RdSeL 5 5 [1,2,3,4,5,6]:=fun c L y G h v Nx=>by kernel_rfl
theorem rdse5_5_1:RdSeL 5 5 [7,8,9,10,11,12]:=fun c L y G h v Nx=>by kernel_rfl
theorem rdse5_5_2:RdSeL 5 5 [13,14]:=fun c L y G h v Nx=>by kernel_rfl
theorem rdse6_0_0:RdSeL 6 0 [0]:=fun c L y G h v Nx=>by kernel_rfl
theorem rdse6_1_0:RdSeL 6 1 [0,1,2,3,4,5]:=fun c L y G h v Nx=>by kernel_rfl
theorem rdse6_1_1:RdSeL 6 1 [6,7,8,9,10,12]:=fun c L y G h v Nx=>by kernel_rfl
theorem rdse6_1_2:RdSeL 6 1 [13,14,15,16,17]:=fun c L y G h v Nx=>by kernel_rfl
theorem rdse6_2_0:RdSeL 6 2 [0,1,2,3,4,5]:=fun c L y G h v Nx=>by kernel_rfl
theorem rdse6_2_1:RdSeL 6 2 [6,7,8,9,10,12]:=fun c L y G h v Nx=>by kernel_rfl
theorem rdse6_2_2:RdSeL 6 2 [13,14,15,16,17]:=fun c L y G h v Nx=>by kernel_rfl
theorem rdse6_3_0:RdSeL 6 3 [0,1,2,3,4,5]:=fun c L y G h v Nx=>by kernel_rfl
theorem rdse6_3_1:RdSeL 6 3 [6,7,8,9,10,12]:=fun c L y G h v Nx=>by kernel_rfl
theorem rdse6_3_2:RdSeL 6 3 [13,14,15,16,17]:=fun c L y G h v Nx=>by kernel_rfl
theorem rdse6_4_0:RdSeL 6 4 [0,1,2,3,4,5]:=fun c L y G h v Nx=>by kernel_rfl
theorem rdse6_4_1:RdSeL 6 4 [6,7,8,9,10,12]:=fun c L y G h v Nx=>by kernel_rfl
theorem rdse6_4_2:RdSeL 6 4 [13,14,15,16,17]:=fun c L y G h v Nx=>by kernel_rfl
theorem rdse6_5_0:RdSeL 6 5 [1,2,3,4,5,6]:=fun c L y G h v Nx=>by kernel_rfl
theorem rdse6_5_1:RdSeL 6 5 [7,8,9,10,12,13]:=fun c L y G h v Nx=>by kernel_rfl
theorem rdse6_5_2:RdSeL 6 5 [14,15,16,17]:=fun c L y G h v Nx=>by kernel_rfl
theorem rdse7_0_0:RdSeL 7 0 [0]:=fun c L y G h v Nx=>by kernel_rfl
theorem rdse7_1_0:RdSeL 7 1 [0,1,2,3,4,5]:=fun c L y G h v Nx=>by kernel_rfl
theorem rdse7_1_1:RdSeL 7 1 [6,7,8,9,10,11]:=fun c L y G h v Nx=>by kernel_rfl
end Go.Proofs.YtibobihgolfplaaGreatDoor.Ev
