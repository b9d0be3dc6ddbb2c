/-
  TopRead: an answer is sent and looked at. (Printed by tools/read.py.)
-/
import Derived.Test.YtibobihgolfplaaGreatDoorJ4
set_option linter.unusedVariables false
set_option maxRecDepth 1000000
namespace Go.Proofs.YtibobihgolfplaaGreatDoor.Ev
open Go
theorem rdse11_1_4:RdSeL 11 1 [26,27,28,29]:=fun c L y G h v Nx=>by kernel_rfl
theorem rdse11_2_0:RdSeL 11 2 [0,1,2,3,4,5]:=fun c L y G h v Nx=>by kernel_rfl
theorem rdse11_2_1:RdSeL 11 2 [6,7,8,9,10,11]:=fun c L y G h v Nx=>by kernel_rfl
theorem rdse11_2_2:RdSeL 11 2 [12,13,14,15,16,17]:=fun c L y G h v Nx=>by kernel_rfl
theorem rdse11_2_3:RdSeL 11 2 [18,21,22,23,24,25]:=fun c L y G h v Nx=>by kernel_rfl
theorem rdse11_2_4:RdSeL 11 2 [26,27,28,29]:=fun c L y G h v Nx=>by kernel_rfl
theorem rdse11_3_0:RdSeL 11 3 [0,1,2,3,4,5]:=fun c L y G h v Nx=>by kernel_rfl
theorem rdse11_3_1:RdSeL 11 3 [6,7,8,9,10,11]:=fun c L y G h v Nx=>by kernel_rfl
theorem rdse11_3_2:RdSeL 11 3 [12,13,14,15,16,17]:=fun c L y G h v Nx=>by kernel_rfl
theorem rdse11_3_3:RdSeL 11 3 [18,21,22,23,24,25]:=fun c L y G h v Nx=>by kernel_rfl
theorem rdse11_3_4:RdSeL 11 3 [26,27,28,29]:=fun c L y G h v Nx=>by kernel_rfl
theorem rdse11_4_0:RdSeL 11 4 [0,1,2,3,4,5]:=fun c L y G h v Nx=>by kernel_rfl
theorem rdse11_4_1:RdSeL 11 4 [6,7,8,9,10,11]:=fun c L y G h v Nx=>by kernel_rfl
theorem rdse11_4_2:RdSeL 11 4 [12,13,14,15,16,17]:=fun c L y G h v Nx=>by kernel_rfl
theorem rdse11_4_3:RdSeL 11 4 [18,21,22,23,24,25]:=fun c L y G h v Nx=>by kernel_rfl
theorem rdse11_4_4:RdSeL 11 4 [26,27,28,29]:=fun c L y G h v Nx=>by kernel_rfl
theorem rdse11_5_0:RdSeL 11 5 [1,2,3,4,5,6]:=fun c L y G h v Nx=>by kernel_rfl
theorem rdse11_5_1:RdSeL 11 5 [7,8,9,10,11,12]:=fun c L y G h v Nx=>by kernel_rfl
theorem rdse11_5_2:RdSeL 11 5 [13,14,15,16,17,18]:=fun c L y G h v Nx=>by kernel_rfl
theorem rdse11_5_3:RdSeL 11 5 [21,22,23,24,25,26]:=fun c L y G h v Nx=>by kernel_rfl
theorem rdse11_5_4:RdSeL 11 5 [27,28,29]:=fun c L y G h v Nx=>by kernel_rfl
end Go.Proofs.YtibobihgolfplaaGreatDoor.Ev
