/-
  TopRead: an answer is sent and looked at. (Printed by tools/read.py.)
-/
import Derived.Test.YtibobihgolfplaaGreatDoorJ4
set_option linter.unusedVariables false
set_option maxRecDepth 1000000
namespace Go.Proofs.YtibobihgolfplaaGreatDoor.Ev
open Go
theorem rdse3_5_1:RdSeL 3 5 [7,8,9]:=fun c L y G h v Nx=>by kernel_rfl
theorem rdse4_0_0:RdSeL 4 0 [0]:=fun c L y G h v Nx=>by kernel_rfl
theorem rdse4_1_0:RdSeL 4 1 [0,1,2,3,4,5]:=fun c L y G h v Nx=>by kernel_rfl
theorem rdse4_1_1:RdSeL 4 1 [6,7,8,9,10,11]:=fun c L y G h v Nx=>by kernel_rfl
theorem rdse4_1_2:RdSeL 4 1 [12]:=fun c L y G h v Nx=>by kernel_rfl
theorem rdse4_2_0:RdSeL 4 2 [0,1,2,3,4,5]:=fun c L y G h v Nx=>by kernel_rfl
theorem rdse4_2_1:RdSeL 4 2 [6,7,8,9,10,11]:=fun c L y G h v Nx=>by kernel_rfl
theorem rdse4_2_2:RdSeL 4 2 [12]:=fun c L y G h v Nx=>by kernel_rfl
theorem rdse4_3_0:RdSeL 4 3 [0,1,2,3,4,5]:=fun c L y G h v Nx=>by kernel_rfl
theorem rdse4_3_1:RdSeL 4 3 [6,7,8,9,10,11]:=fun c L y G h v Nx=>by kernel_rfl
theorem rdse4_3_2:RdSeL 4 3 [12]:=fun c L y G h v Nx=>by kernel_rfl
theorem rdse4_4_0:RdSeL 4 4 [0,1,2,3,4,5]:=fun c L y G h v Nx=>by kernel_rfl
theorem rdse4_4_1:RdSeL 4 4 [6,7,8,9,10,11]:=fun c L y G h v Nx=>by kernel_rfl
theorem rdse4_4_2:RdSeL 4 4 [12]:=fun c L y G h v Nx=>by kernel_rfl
theorem rdse4_5_0:RdSeL 4 5 [1,2,3,4,5,6]:=fun c L y G h v Nx=>by kernel_rfl
theorem rdse4_5_1:RdSeL 4 5 [7,8,9,10,11,12]:=fun c L y G h v Nx=>by kernel_rfl
theorem rdse5_0_0:RdSeL 5 0 [0]:=fun c L y G h v Nx=>by kernel_rfl
theorem rdse5_1_0:RdSeL 5 1 [0,1,2,3,4,5]:=fun c L y G h v Nx=>by kernel_rfl
theorem rdse5_1_1:RdSeL 5 1 [6,7,8,9,10,11]:=fun c L y G h v Nx=>by kernel_rfl
theorem rdse5_1_2:RdSeL 5 1 [12,13,14]:=fun c L y G h v Nx=>by kernel_rfl
theorem rdse5_2_0:RdSeL 5 2 [0,1,2,3,4,5]:=fun c L y G h v Nx=>by kernel_rfl
theorem rdse5_2_1:RdSeL 5 2 [6,7,8,9,10,11]:=fun c L y G h v Nx=>by kernel_rfl
theorem rdse5_2_2:RdSeL 5 2 [12,13,14]:=fun c L y G h v Nx=>by kernel_rfl
theorem rdse5_3_0:RdSeL 5 3 [0,1,2,3,4,5]:=fun c L y G h v Nx=>by kernel_rfl
theorem rdse5_3_1:RdSeL 5 3 [6,7,8,9,10,11]:=fun c L y G h v Nx=>by kernel_rfl
theorem rdse5_3_2:RdSeL 5 3 [12,13,14]:=fun c L y G h v Nx=>by kernel_rfl
theorem rdse5_4_0:RdSeL 5 4 [0,1,2,3,4,5]:=fun c L y G h v Nx=>by kernel_rfl
end Go.Proofs.YtibobihgolfplaaGreatDoor.Ev
