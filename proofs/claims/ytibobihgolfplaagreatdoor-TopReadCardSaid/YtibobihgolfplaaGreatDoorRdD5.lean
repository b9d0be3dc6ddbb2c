/-
  TopRead: an answer is sent and looked at. (Printed by tools/read.py.)
-/
import Derived.Test.YtibobihgolfplaaGreatDoorJ4
set_option linter.unusedVariables false
set_option maxRecDepth 1000000
namespace Go.Proofs.YtibobihgolfplaaGreatDoor.Ev
open Go
theorem rdse9_2_3:RdSeL 9 2 [19,20,21,22,23,24]:=fun c L y G h v Nx=>by kernel_rfl
theorem rdse9_3_0:RdSeL 9 3 [0,1,2,3,4,5]:=fun c L y G h v Nx=>by kernel_rfl
theorem rdse9_3_1:RdSeL 9 3 [6,7,8,9,10,11]:=fun c L y G h v Nx=>by kernel_rfl
theorem rdse9_3_2:RdSeL 9 3 [12,13,14,15,17,18]:=fun c L y G h v Nx=>by kernel_rfl
theorem rdse9_3_3:RdSeL 9 3 [19,20,21,22,23,24]:=fun c L y G h v Nx=>by kernel_rfl
theorem rdse9_4_0:RdSeL 9 4 [0,1,2,3,4,5]:=fun c L y G h v Nx=>by kernel_rfl
theorem rdse9_4_1:RdSeL 9 4 [6,7,8,9,10,11]:=fun c L y G h v Nx=>by kernel_rfl
theorem rdse9_4_2:RdSeL 9 4 [12,13,14,15,17,18]:=fun c L y G h v Nx=>by kernel_rfl
theorem rdse9_4_3:RdSeL 9 4 [19,20,21,22,23,24]:=fun c L y G h v Nx=>by kernel_rfl
theorem rdse9_5_0:RdSeL 9 5 [1,2,3,4,5,6]:=fun c L y G h v Nx=>by kernel_rfl
theorem rdse9_5_1:RdSeL 9 5 [7,8,9,10,11,12]:=fun c L y G h v Nx=>by kernel_rfl
theorem rdse9_5_2:RdSeL 9 5 [13,14,15,17,18,19]:=fun c L y G h v Nx=>by kernel_rfl
theorem rdse9_5_3:RdSeL 9 5 [20,21,22,23,24]:=fun c L y G h v Nx=>by kernel_rfl
theorem rdse10_0_0:RdSeL 10 0 [0]:=fun c L y G h v Nx=>by kernel_rfl
theorem rdse10_1_0:RdSeL 10 1 [0,1,2,3,4,5]:=fun c L y G h v Nx=>by kernel_rfl
theorem rdse10_1_1:RdSeL 10 1 [6,7,8,9,10,11]:=fun c L y G h v Nx=>by kernel_rfl
theorem rdse10_1_2:RdSeL 10 1 [12,13,14,15,16,17]:=fun c L y G h v Nx=>by kernel_rfl
theorem rdse10_1_3:RdSeL 10 1 [19,20,21,22,23,24]:=fun c L y G h v Nx=>by kernel_rfl
theorem rdse10_1_4:RdSeL 10 1 [25,26]:=fun c L y G h v Nx=>by kernel_rfl
theorem rdse10_2_0:RdSeL 10 2 [0,1,2,3,4,5]:=fun c L y G h v Nx=>by kernel_rfl
theorem rdse10_2_1:RdSeL 10 2 [6,7,8,9,10,11]:=fun c L y G h v Nx=>by kernel_rfl
end Go.Proofs.YtibobihgolfplaaGreatDoor.Ev
