/-
  TopRead: an answer is sent and looked at. (Printed by tools/read.py.)
-/
import Derived.Test.YtibobihgolfplaaGreatDoorJ4
set_option linter.unusedVariables false
set_option maxRecDepth 1000000
namespace Go.Proofs.YtibobihgolfplaaGreatDoor.Ev
open Go
theorem rdse7_1_2:RdSeL 7 1 [12,14,15,16,17,18]:=fun c L y G h v Nx=>by kernel_rfl
theorem rdse7_1_3:RdSeL 7 1 [19]:=fun c L y G h v Nx=>by kernel_rfl
theorem rdse7_2_0:RdSeL 7 2 [0,1,2,3,4,5]:=fun c L y G h v Nx=>by kernel_rfl
theorem rdse7_2_1:RdSeL 7 2 [6,7,8,9,10,11]:=fun c L y G h v Nx=>by kernel_rfl
theorem rdse7_2_2:RdSeL 7 2 [12,14,15,16,17,18]:=fun c L y G h v Nx=>by kernel_rfl
theorem rdse7_2_3:RdSeL 7 2 [19]:=fun c L y G h v Nx=>by kernel_rfl
theorem rdse7_3_0:RdSeL 7 3 [0,1,2,3,4,5]:=fun c L y G h v Nx=>by kernel_rfl
theorem rdse7_3_1:RdSeL 7 3 [6,7,8,9,10,11]:=fun c L y G h v Nx=>by kernel_rfl
theorem rdse7_3_2:RdSeL 7 3 [12,14,15,16,17,18]:=fun c L y G h v Nx=>by kernel_rfl
theorem rdse7_3_3:RdSeL 7 3 [19]:=fun c L y G h v Nx=>by kernel_rfl
theorem rdse7_4_0:RdSeL 7 4 [0,1,2,3,4,5]:=fun c L y G h v Nx=>by kernel_rfl
theorem rdse7_4_1:RdSeL 7 4 [6,7,8,9,10,11]:=fun c L y G h v Nx=>by kernel_rfl
theorem rdse7_4_2:RdSeL 7 4 [12,14,15,16,17,18]:=fun c L y G h v Nx=>by kernel_rfl
theorem rdse7_4_3:RdSeL 7 4 [19]:=fun c L y G h v Nx=>by kernel_rfl
theorem rdse7_5_0:RdSeL 7 5 [1,2,3,4,5,6]:=fun c L y G h v Nx=>by kernel_rfl
theorem rdse7_5_1:RdSeL 7 5 [7,8,9,10,11,12]:=fun c L y G h v Nx=>by kernel_rfl
theorem rdse7_5_2:RdSeL 7 5 [14,15,16,17,18,19]:=fun c L y G h v Nx=>by kernel_rfl
theorem rdse8_0_0:RdSeL 8 0 [0]:=fun c L y G h v Nx=>by kernel_rfl
theorem rdse8_1_0:RdSeL 8 1 [0,1,2,3,4,5]:=fun c L y G h v Nx=>by kernel_rfl
theorem rdse8_1_1:RdSeL 8 1 [6,7,8,9,10,11]:=fun c L y G h v Nx=>by kernel_rfl
theorem rdse8_1_2:RdSeL 8 1 [12,13,14,15,16,17]:=fun c L y G h v Nx=>by kernel_rfl
theorem rdse8_1_3:RdSeL 8 1 [18,19,20,21]:=fun c L y G h v Nx=>by kernel_rfl
theorem rdse8_2_0:RdSeL 8 2 [0,1,2,3,4,5]:=fun c L y G h v Nx=>by kernel_rfl
theorem rdse8_2_1:RdSeL 8 2 [6,7,8,9,10,11]:=fun c L y G h v Nx=>by kernel_rfl
end Go.Proofs.YtibobihgolfplaaGreatDoor.Ev
