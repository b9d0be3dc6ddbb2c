/-
  TopRead: a read is asked for and served. (Printed by tools/read.py.)
-/
import Derived.Test.YtibobihgolfplaaGreatDoorJ4
set_option linter.unusedVariables false
set_option maxRecDepth 1000000
namespace Go.Proofs.YtibobihgolfplaaGreatDoor.Ev
open Go
theorem rdas1_1f2(n N:Int)(r:Nat):RdAsL 1 1 false 0 n N r [13,14,15,16]:=fun c L y G h Nx=>by kernel_rfl
theorem rdas1_1t0(n N:Int)(r:Nat):RdAsL 1 1 true 0 n N r [1,2,3,4,5,6]:=fun c L y G h Nx=>by kernel_rfl
theorem rdas1_1t1(n N:Int)(r:Nat):RdAsL 1 1 true 0 n N r [7,8,9,10,11,12]:=fun c L y G h Nx=>by kernel_rfl
theorem rdas1_1t2(n N:Int)(r:Nat):RdAsL 1 1 true 0 n N r [13,14,15,16]:=fun c L y G h Nx=>by kernel_rfl
theorem rdas1_2f0(n N:Int)(r:Nat):RdAsL 1 2 false 0 n N r [1,2,3,4,5,6]:=fun c L y G h Nx=>by kernel_rfl
theorem rdas1_2f1(n N:Int)(r:Nat):RdAsL 1 2 false 0 n N r [7,8,9,10,11,12]:=fun c L y G h Nx=>by kernel_rfl
theorem rdas1_2f2(n N:Int)(r:Nat):RdAsL 1 2 false 0 n N r [13,14,15,16]:=fun c L y G h Nx=>by kernel_rfl
theorem rdas1_2t0(n N:Int)(r:Nat):RdAsL 1 2 true 0 n N r [1,2,3,4,5,6]:=fun c L y G h Nx=>by kernel_rfl
theorem rdas1_2t1(n N:Int)(r:Nat):RdAsL 1 2 true 0 n N r [7,8,9,10,11,12]:=fun c L y G h Nx=>by kernel_rfl
theorem rdas1_2t2(n N:Int)(r:Nat):RdAsL 1 2 true 0 n N r [13,14,15,16]:=fun c L y G h Nx=>by kernel_rfl
theorem rdas1_3f0(n N:Int)(r:Nat):RdAsL 1 3 false 0 n N r [1,2,3,4,5,6]:=fun c L y G h Nx=>by kernel_rfl
theorem rdas1_3f1(n N:Int)(r:Nat):RdAsL 1 3 false 0 n N r [7,8,9,10,11,12]:=fun c L y G h Nx=>by kernel_rfl
theorem rdas1_3f2(n N:Int)(r:Nat):RdAsL 1 3 false 0 n N r [13,14,15,16]:=fun c L y G h Nx=>by kernel_rfl
theorem rdas1_3t0(n N:Int)(r:Nat):RdAsL 1 3 true 0 n N r [1,2,3,4,5,6]:=fun c L y G h Nx=>by kernel_rfl
theorem rdas1_3t1(n N:Int)(r:Nat):RdAsL 1 3 true 0 n N r [7,8,9,10,11,12]:=fun c L y G h Nx=>by kernel_rfl
theorem rdas1_3t2(n N:Int)(r:Nat):RdAsL 1 3 true 0 n N r [13,14,15,16]:=fun c L y G h Nx=>by kernel_rfl
theorem rdas1_4f0(n N:Int)(r:Nat):RdAsL 1 4 false 0 n N r [1,2,3,4,5,6]:=fun c L y G h Nx=>by kernel_rfl
theorem rdas1_4f1(n N:Int)(r:Nat):RdAsL 1 4 false 0 n N r [7,8,9,10,11,12]:=fun c L y G h Nx=>by kernel_rfl
theorem rdas1_4f2(n N:Int)(r:Nat):RdAsL 1 4 false 0 n N r [13,14,15,16]:=fun c L y G h Nx=>by kernel_rfl
theorem rdas1_4t0(n N:Int)(r:Nat):RdAsL 1 4 true 0 n N r [1,2,3,4,5,6]:=fun c L y G h Nx=>by kernel_rfl
theorem rdas1_4t1(n N:Int)(r:Nat):RdAsL 1 4 true 0 n N r [7,8,9,10,11,12]:=fun c L y G h Nx=>by kernel_rfl
theorem rdas1_4t2(n N:Int)(r:Nat):RdAsL 1 4 true 0 n N r [13,14,15,16]:=fun c L y G h Nx=>by kernel_rfl
theorem rdas1_5f0(n N:Int)(r:Nat):RdAsL 1 5 false 0 n N r [1,2,3,4,5,6]:=fun c L y G h Nx=>by kernel_rfl
theorem rdas1_5f1(n N:Int)(r:Nat):RdAsL 1 5 false 0 n N r [7,8,9,10,11,12]:=fun c L y G h Nx=>by kernel_rfl
theorem rdas1_5f2(n N:Int)(r:Nat):RdAsL 1 5 false 0 n N r [13,14,15,16]:=fun c L y G h Nx=>by kernel_rfl
theorem rdas1_5t0(n N:Int)(r:Nat):RdAsL 1 5 true 0 n N r [1,2,3,4,5,6]:=fun c L y G h Nx=>by kernel_rfl
theorem rdas1_5t1(n N:Int)(r:Nat):RdAsL 1 5 true 0 n N r [7,8,9,10,11,12]:=fun c L y G h Nx=>by kernel_rfl
theorem rdas1_5t2(n N:Int)(r:Nat):RdAsL 1 5 true 0 n N r [13,14,15,16]:=fun c L y G h Nx=>by kernel_rfl
theorem rdas1_6f0(n N:Int)(r:Nat):RdAsL 1 6 false 0 n N r [1,2,3,4,5,6]:=fun c L y G h Nx=>by kernel_rfl
theorem rdas1_6f1(n N:Int)(r:Nat):RdAsL 1 6 false 0 n N r [7,8,9,10,11,12]:=fun c L y G h Nx=>by kernel_rfl
theorem rdas1_6f2(n N:Int)(r:Nat):RdAsL 1 6 false 0 n N r [13,14,15,16]:=fun c L y G h Nx=>by kernel_rfl
theorem rdas1_6t0(n N:Int)(r:Nat):RdAsL 1 6 true 0 n N r [1,2,3,4,5,6]:=fun c L y G h Nx=>by kernel_rfl
end Go.Proofs.YtibobihgolfplaaGreatDoor.Ev
