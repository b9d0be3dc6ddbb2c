/-
  Steps of the machine in TopRead. (Printed by tools/read.py.)
-/
import Derived.Test.YtibobihgolfplaaGreatDoorJ4
set_option linter.unusedVariables false
set_option maxRecDepth 1000000
namespace Go.Proofs.YtibobihgolfplaaGreatDoor.Ev
open Go
theorem rdin0_0f0:RdInL 0 0 false 1 0 0 0 [0]:=fun c L y G h s Nx=>by kernel_rfl
theorem rdin0_0t0:RdInL 0 0 true 1 0 0 0 [1,2,3,4,5,6,7,8,9,10,11,12,13,14,15]:=fun c L y G h s Nx=>by kernel_rfl
theorem rdin0_1f0:RdInL 0 1 false 1 0 0 0 [0,1,2,3,4,5,6,7,8,9,10,11,12,13,14,15]:=fun c L y G h s Nx=>by kernel_rfl
theorem rdin0_1t0:RdInL 0 1 true 1 0 0 0 [1,2,3,4,5,6,7,8,9,10,11,12,13,14,15]:=fun c L y G h s Nx=>by kernel_rfl
theorem rdin0_2f0:RdInL 0 2 false 1 0 0 0 [0,1,2,3,4,5,6,7,8,9,10,11,12,13,14,15]:=fun c L y G h s Nx=>by kernel_rfl
theorem rdin0_2t0:RdInL 0 2 true 1 0 0 0 [1,2,3,4,5,6,7,8,9,10,11,12,13,14,15]:=fun c L y G h s Nx=>by kernel_rfl
theorem rdin0_3f0:RdInL 0 3 false 1 0 0 0 [0,1,2,3,4,5,6,7,8,9,10,11,12,13,14,15]:=fun c L y G h s Nx=>by kernel_rfl
theorem rdin0_3t0:RdInL 0 3 true 1 0 0 0 [1,2,3,4,5,6,7,8,9,10,11,12,13,14,15]:=fun c L y G h s Nx=>by kernel_rfl
theorem rdin0_4f0:RdInL 0 4 false 1 0 0 0 [0,1,2,3,4,5,6,7,8,9,10,11,12,13,14,15]:=fun c L y G h s Nx=>by kernel_rfl
theorem rdin0_4t0:RdInL 0 4 true 1 0 0 0 [1,2,3,4,5,6,7,8,9,10,11,12,13,14,15]:=fun c L y G h s Nx=>by kernel_rfl
theorem rdin0_5f0:RdInL 0 5 false 1 0 0 0 [0,1,2,3,4,5,6,7,8,9,10,11,12,13,14,15]:=fun c L y G h s Nx=>by kernel_rfl
theorem rdin0_5t0:RdInL 0 5 true 1 0 0 0 [1,2,3,4,5,6,7,8,9,10,11,12,13,14,15]:=fun c L y G h s Nx=>by kernel_rfl
theorem rdin0_6f0:RdInL 0 6 false 1 0 0 0 [0,1,2,3,4,5,6,7,8,9,10,11,12,13,14,15]:=fun c L y G h s Nx=>by kernel_rfl
theorem rdin0_6t0:RdInL 0 6 true 1 0 0 0 [1,2,3,4,5,6,7,8,9,10,11,12,13,14,15]:=fun c L y G h s Nx=>by kernel_rfl
theorem rdin0_7f0:RdInL 0 7 false 1 0 0 0 [0,1,2,3,4,5,6,7,8,9,10,11,12,13,14,15]:=fun c L y G h s Nx=>by kernel_rfl
theorem rdin0_7t0:RdInL 0 7 true 1 0 0 0 [1,2,3,4,5,6,7,8,9,10,11,12,13,14,15]:=fun c L y G h s Nx=>by kernel_rfl
theorem rdin0_8f0:RdInL 0 8 false 1 0 0 0 [0,1,2,3,4,5,6,7,8,9,10,11,12,13,14,15]:=fun c L y G h s Nx=>by kernel_rfl
theorem rdin0_8t0:RdInL 0 8 true 1 0 0 0 [1,2,3,4,5,6,7,8,9,10,11,12,13,14,15]:=fun c L y G h s Nx=>by kernel_rfl
theorem rdin0_9f0:RdInL 0 9 false 1 0 0 0 [0,1,2,3,4,5,6,7,8,9,10,11,12,13,14,15]:=fun c L y G h s Nx=>by kernel_rfl
theorem rdin0_9t0:RdInL 0 9 true 1 0 0 0 [1,2,3,4,5,6,7,8,9,10,11,12,13,14,15]:=fun c L y G h s Nx=>by kernel_rfl
theorem rdin0_10f0:RdInL 0 10 false 1 0 0 0 [0,1,2,3,4,5,6,7,8,9,10,11,12,13,14,15]:=fun c L y G h s Nx=>by kernel_rfl
theorem rdin0_10t0:RdInL 0 10 true 1 0 0 0 [1,2,3,4,5,6,7,8,9,10,11,12,13,14,15]:=fun c L y G h s Nx=>by kernel_rfl
theorem rdin0_11f0:RdInL 0 11 false 1 0 0 0 [0,1,2,3,4,5,6,7,8,9,10,11,12,13,14,15]:=fun c L y G h s Nx=>by kernel_rfl
end Go.Proofs.YtibobihgolfplaaGreatDoor.Ev
