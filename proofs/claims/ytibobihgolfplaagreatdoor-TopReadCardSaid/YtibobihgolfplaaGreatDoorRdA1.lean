/-
  Steps of the machine in TopRead. (Printed by tools/read.py.)
-/
import Derived.Test.YtibobihgolfplaaGreatDoorJ4
set_option linter.unusedVariables false
set_option maxRecDepth 1000000
namespace Go.Proofs.YtibobihgolfplaaGreatDoor.Ev
open Go
theorem rdin0_11t0:RdInL 0 11 true 1 0 0 0 [1,2,3,4,5,6,7,8,9,10,11,12,13,14,15]:=fun c L y G h s Nx=>by kernel_rfl
theorem rdin1_0t0(n N:Int)(r:Nat):RdInL 1 0 true 0 n N r [1,2,3,4,5,6,7,8,9,10,11,12,13,14,15,16]:=fun c L y G h s Nx=>by kernel_rfl
theorem rdin1_1f0(n N:Int)(r:Nat):RdInL 1 1 false 0 n N r [1,2,3,4,5,6,7,8,9,10,11,12,13,14,15,16]:=fun c L y G h s Nx=>by kernel_rfl
theorem rdin1_1t0(n N:Int)(r:Nat):RdInL 1 1 true 0 n N r [1,2,3,4,5,6,7,8,9,10,11,12,13,14,15,16]:=fun c L y G h s Nx=>by kernel_rfl
theorem rdin1_2f0(n N:Int)(r:Nat):RdInL 1 2 false 0 n N r [1,2,3,4,5,6,7,8,9,10,11,12,13,14,15,16]:=fun c L y G h s Nx=>by kernel_rfl
theorem rdin1_2t0(n N:Int)(r:Nat):RdInL 1 2 true 0 n N r [1,2,3,4,5,6,7,8,9,10,11,12,13,14,15,16]:=fun c L y G h s Nx=>by kernel_rfl
theorem rdin1_3f0(n N:Int)(r:Nat):RdInL 1 3 false 0 n N r [1,2,3,4,5,6,7,8,9,10,11,12,13,14,15,16]:=fun c L y G h s Nx=>by kernel_rfl
theorem rdin1_3t0(n N:Int)(r:Nat):RdInL 1 3 true 0 n N r [1,2,3,4,5,6,7,8,9,10,11,12,13,14,15,16]:=fun c L y G h s Nx=>by kernel_rfl
theorem rdin1_4f0(n N:Int)(r:Nat):RdInL 1 4 false 0 n N r [1,2,3,4,5,6,7,8,9,10,11,12,13,14,15,16]:=fun c L y G h s Nx=>by kernel_rfl
theorem rdin1_4t0(n N:Int)(r:Nat):RdInL 1 4 true 0 n N r [1,2,3,4,5,6,7,8,9,10,11,12,13,14,15,16]:=fun c L y G h s Nx=>by kernel_rfl
theorem rdin1_5f0(n N:Int)(r:Nat):RdInL 1 5 false 0 n N r [1,2,3,4,5,6,7,8,9,10,11,12,13,14,15,16]:=fun c L y G h s Nx=>by kernel_rfl
theorem rdin1_5t0(n N:Int)(r:Nat):RdInL 1 5 true 0 n N r [1,2,3,4,5,6,7,8,9,10,11,12,13,14,15,16]:=fun c L y G h s Nx=>by kernel_rfl
theorem rdin1_6f0(n N:Int)(r:Nat):RdInL 1 6 false 0 n N r [1,2,3,4,5,6,7,8,9,10,11,12,13,14,15,16]:=fun c L y G h s Nx=>by kernel_rfl
theorem rdin1_6t0(n N:Int)(r:Nat):RdInL 1 6 true 0 n N r [1,2,3,4,5,6,7,8,9,10,11,12,13,14,15,16]:=fun c L y G h s Nx=>by kernel_rfl
theorem rdin1_7f0(n N:Int)(r:Nat):RdInL 1 7 false 0 n N r [1,2,3,4,5,6,7,8,9,10,11,12,13,14,15,16]:=fun c L y G h s Nx=>by kernel_rfl
theorem rdin1_7t0(n N:Int)(r:Nat):RdInL 1 7 true 0 n N r [1,2,3,4,5,6,7,8,9,10,11,12,13,14,15,16]:=fun c L y G h s Nx=>by kernel_rfl
theorem rdin1_8f0(n N:Int)(r:Nat):RdInL 1 8 false 0 n N r [1,2,3,4,5,6,7,8,9,10,11,12,13,14,15,16]:=fun c L y G h s Nx=>by kernel_rfl
theorem rdin1_8t0(n N:Int)(r:Nat):RdInL 1 8 true 0 n N r [1,2,3,4,5,6,7,8,9,10,11,12,13,14,15,16]:=fun c L y G h s Nx=>by kernel_rfl
theorem rdin1_9f0(n N:Int)(r:Nat):RdInL 1 9 false 0 n N r [1,2,3,4,5,6,7,8,9,10,11,12,13,14,15,16]:=fun c L y G h s Nx=>by kernel_rfl
theorem rdin1_9t0(n N:Int)(r:Nat):RdInL 1 9 true 0 n N r [1,2,3,4,5,6,7,8,9,10,11,12,13,14,15,16]:=fun c L y G h s Nx=>by kernel_rfl
theorem rdin1_10f0(n N:Int)(r:Nat):RdInL 1 10 false 0 n N r [1,2,3,4,5,6,7,8,9,10,11,12,13,14,15,16]:=fun c L y G h s Nx=>by kernel_rfl
theorem rdin1_10t0(n N:Int)(r:Nat):RdInL 1 10 true 0 n N r [1,2,3,4,5,6,7,8,9,10,11,12,13,14,15,16]:=fun c L y G h s Nx=>by kernel_rfl
theorem rdin1_11f0(n N:Int)(r:Nat):RdInL 1 11 false 0 n N r [1,2,3,4,5,6,7,8,9,10,11,12,13,14,15,16]:=fun c L y G h s Nx=>by kernel_rfl
theorem rdin1_11t0(n N:Int)(r:Nat):RdInL 1 11 true 0 n N r [1,2,3,4,5,6,7,8,9,10,11,12,13,14,15,16]:=fun c L y G h s Nx=>by kernel_rfl
end Go.Proofs.YtibobihgolfplaaGreatDoor.Ev
