/-
  TopRead: an answer is sent and looked at. (Printed by tools/read.py.)
-/
import Derived.Test.YtibobihgolfplaaGreatDoorJ4
set_option linter.unusedVariables false
set_option maxRecDepth 1000000
namespace Go.Proofs.YtibobihgolfplaaGreatDoor.Ev
open Go
theorem rdse10_2_2:RdSeL 10 2 [12,13,14,15,16,17]:=fun c L y G h v Nx=>by kernel_rfl
theorem rdse10_2_3:RdSeL 10 2 [19,20,21,22,23,24]:=fun c L y G h v Nx=>by kernel_rfl
theorem rdse10_2_4:RdSeL 10 2 [25,26]:=fun c L y G h v Nx=>by kernel_rfl
theorem rdse10_3_0:RdSeL 10 3 [0,1,2,3,4,5]:=fun c L y G h v Nx=>by kernel_rfl
theorem rdse10_3_1:RdSeL 10 3 [6,7,8,9,10,11]:=fun c L y G h v Nx=>by kernel_rfl
theorem rdse10_3_2:RdSeL 10 3 [12,13,14,15,16,17]:=fun c L y G h v Nx=>by kernel_rfl
theorem rdse10_3_3:RdSeL 10 3 [19,20,21,22,23,24]:=fun c L y G h v Nx=>by kernel_rfl
theorem rdse10_3_4:RdSeL 10 3 [25,26]:=fun c L y G h v Nx=>by kernel_rfl
theorem rdse10_4_0:RdSeL 10 4 [0,1,2,3,4,5]:=fun c L y G h v Nx=>by kernel_rfl
theorem rdse10_4_1:RdSeL 10 4 [6,7,8,9,10,11]:=fun c L y G h v Nx=>by kernel_rfl
theorem rdse10_4_2:RdSeL 10 4 [12,13,14,15,16,17]:=fun c L y G h v Nx=>by kernel_rfl
theorem rdse10_4_3:RdSeL 10 4 [19,20,21,22,23,24]:=fun c L y G h v Nx=>by kernel_rfl
theorem rdse10_4_4:RdSeL 10 4 [25,26]:=fun c L y G h v Nx=>by kernel_rfl
theorem rdse10_5_0:RdSeL 10 5 [1,2,3,4,5,6]:=fun c L y G h v Nx=>by kernel_rfl
theorem rdse10_5_1:RdSeL 10 5 [7,8,9,10,11,12]:=fun c L y G h v Nx=>by kernel_rfl
theorem rdse10_5_2:RdSeL 10 5 [13,14,15,16,17,19]:=fun c L y G h v Nx=>by kernel_rfl
theorem rdse10_5_3:RdSeL 10 5 [20,21,22,23,24,25]:=fun c L y G h v Nx=>by kernel_rfl
theorem rdse10_5_4:RdSeL 10 5 [26]:=fun c L y G h v Nx=>by kernel_rfl
theorem rdse11_0_0:RdSeL 11 0 [0]:=fun c L y G h v Nx=>by kernel_rfl
theorem rdse11_1_0:RdSeL 11 1 [0,1,2,3,4,5]:=fun c L y G h v Nx=>by kernel_rfl
theorem rdse11_1_1:RdSeL 11 1 [6,7,8,9,10,11]:=fun c L y G h v Nx=>by kernel_rfl
theorem rdse11_1_2:RdSeL 11 1 [12,13,14,15,16,17]:=fun c L y G h v Nx=>by kernel_rfl
theorem rdse11_1_3:RdSeL 11 1 [18,21,22,23,24,25]:=fun c L y G h v Nx=>by kernel_rfl
end Go.Proofs.YtibobihgolfplaaGreatDoor.Ev
