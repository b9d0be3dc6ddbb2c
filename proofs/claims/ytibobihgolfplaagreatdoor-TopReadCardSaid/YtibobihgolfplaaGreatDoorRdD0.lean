/-
  TopRead: an answer is sent and looked at. (Printed by tools/read.py.)
-/
import Derived.Test.YtibobihgolfplaaGreatDoorJ4
set_option linter.unusedVariables false
set_option maxRecDepth 1000000
namespace Go.Proofs.YtibobihgolfplaaGreatDoor.Ev
open Go
theorem rdse0_0_0:RdSeL 0 0 [0]:=fun c L y G h v Nx=>by kernel_rfl
theorem rdse0_1_0:RdSeL 0 1 [0,1,2]:=fun c L y G h v Nx=>by kernel_rfl
theorem rdse0_2_0:RdSeL 0 2 [0,1,2]:=fun c L y G h v Nx=>by kernel_rfl
theorem rdse0_3_0:RdSeL 0 3 [0,1,2]:=fun c L y G h v Nx=>by kernel_rfl
theorem rdse0_4_0:RdSeL 0 4 [0,1,2]:=fun c L y G h v Nx=>by kernel_rfl
theorem rdse0_5_0:RdSeL 0 5 [1,2]:=fun c L y G h v Nx=>by kernel_rfl
theorem rdse1_0_0:RdSeL 1 0 [0]:=fun c L y G h v Nx=>by kernel_rfl
theorem rdse1_1_0:RdSeL 1 1 [0,1,2,3,4]:=fun c L y G h v Nx=>by kernel_rfl
theorem rdse1_2_0:RdSeL 1 2 [0,1,2,3,4]:=fun c L y G h v Nx=>by kernel_rfl
theorem rdse1_3_0:RdSeL 1 3 [0,1,2,3,4]:=fun c L y G h v Nx=>by kernel_rfl
theorem rdse1_4_0:RdSeL 1 4 [0,1,2,3,4]:=fun c L y G h v Nx=>by kernel_rfl
theorem rdse1_5_0:RdSeL 1 5 [1,2,3,4]:=fun c L y G h v Nx=>by kernel_rfl
theorem rdse2_0_0:RdSeL 2 0 [0]:=fun c L y G h v Nx=>by kernel_rfl
theorem rdse2_1_0:RdSeL 2 1 [0,1,2,3,4,5]:=fun c L y G h v Nx=>by kernel_rfl
theorem rdse2_1_1:RdSeL 2 1 [6,7]:=fun c L y G h v Nx=>by kernel_rfl
theorem rdse2_2_0:RdSeL 2 2 [0,1,2,3,4,5]:=fun c L y G h v Nx=>by kernel_rfl
theorem rdse2_2_1:RdSeL 2 2 [6,7]:=fun c L y G h v Nx=>by kernel_rfl
theorem rdse2_3_0:RdSeL 2 3 [0,1,2,3,4,5]:=fun c L y G h v Nx=>by kernel_rfl
theorem rdse2_3_1:RdSeL 2 3 [6,7]:=fun c L y G h v Nx=>by kernel_rfl
theorem rdse2_4_0:RdSeL 2 4 [0,1,2,3,4,5]:=fun c L y G h v Nx=>by kernel_rfl
theorem rdse2_4_1:RdSeL 2 4 [6,7]:=fun c L y G h v Nx=>by kernel_rfl
theorem rdse2_5_0:RdSeL 2 5 [1,2,3,4,5,6]:=fun c L y G h v Nx=>by kernel_rfl
theorem rdse2_5_1:RdSeL 2 5 [7]:=fun c L y G h v Nx=>by kernel_rfl
theorem rdse3_0_0:RdSeL 3 0 [0]:=fun c L y G h v Nx=>by kernel_rfl
theorem rdse3_1_0:RdSeL 3 1 [0,1,2,3,4,5]:=fun c L y G h v Nx=>by kernel_rfl
theorem rdse3_1_1:RdSeL 3 1 [6,7,8,9]:=fun c L y G h v Nx=>by kernel_rfl
theorem rdse3_2_0:RdSeL 3 2 [0,1,2,3,4,5]:=fun c L y G h v Nx=>by kernel_rfl
theorem rdse3_2_1:RdSeL 3 2 [6,7,8,9]:=fun c L y G h v Nx=>by kernel_rfl
theorem rdse3_3_0:RdSeL 3 3 [0,1,2,3,4,5]:=fun c L y G h v Nx=>by kernel_rfl
theorem rdse3_3_1:RdSeL 3 3 [6,7,8,9]:=fun c L y G h v Nx=>by kernel_rfl
theorem rdse3_4_0:RdSeL 3 4 [0,1,2,3,4,5]:=fun c L y G h v Nx=>by kernel_rfl
theorem rdse3_4_1:RdSeL 3 4 [6,7,8,9]:=fun c L y G h v Nx=>by kernel_rfl
theorem rdse3_5_0:RdSeL 3 5 [1,2,3,4,5,6]:=fun c L y G h v Nx=>by kernel_rfl
end Go.Proofs.YtibobihgolfplaaGreatDoor.Ev
