/-
  TopRead: a read is asked for and served. (Printed by tools/read.py.)
-/
import Derived.Test.YtibobihgolfplaaGreatDoorJ4
set_option linter.unusedVariables false
set_option maxRecDepth 1000000
namespace Go.Proofs.YtibobihgolfplaaGreatDoor.Ev
open Go
theorem rdas0_8t1:RdAsL 0 8 true 1 0 0 0 [8,9,10,11,12,14]:=fun c L y G h Nx=>by kernel_rfl
theorem rdas0_8t2:RdAsL 0 8 true 1 0 0 0 [15]:=fun c L y G h Nx=>by kernel_rfl
theorem rdas0_8t3:RdAsL 0 8 true 1 0 0 0 [1]:=fun c L y G h Nx=>by kernel_rfl
theorem rdas0_8t4:RdAsL 0 8 true 1 0 0 0 [13]:=fun c L y G h Nx=>by kernel_rfl
theorem rdas0_9f0:RdAsL 0 9 false 1 0 0 0 [1,2,3,4,5,6]:=fun c L y G h Nx=>by kernel_rfl
theorem rdas0_9f1:RdAsL 0 9 false 1 0 0 0 [7,8,9,10,11,12]:=fun c L y G h Nx=>by kernel_rfl
theorem rdas0_9f2:RdAsL 0 9 false 1 0 0 0 [14,15]:=fun c L y G h Nx=>by kernel_rfl
theorem rdas0_9f3:RdAsL 0 9 false 1 0 0 0 [0]:=fun c L y G h Nx=>by kernel_rfl
theorem rdas0_9f4:RdAsL 0 9 false 1 0 0 0 [13]:=fun c L y G h Nx=>by kernel_rfl
theorem rdas0_9t0:RdAsL 0 9 true 1 0 0 0 [2,3,4,5,6,7]:=fun c L y G h Nx=>by kernel_rfl
theorem rdas0_9t1:RdAsL 0 9 true 1 0 0 0 [8,9,10,11,12,14]:=fun c L y G h Nx=>by kernel_rfl
theorem rdas0_9t2:RdAsL 0 9 true 1 0 0 0 [15]:=fun c L y G h Nx=>by kernel_rfl
theorem rdas0_9t3:RdAsL 0 9 true 1 0 0 0 [1]:=fun c L y G h Nx=>by kernel_rfl
theorem rdas0_9t4:RdAsL 0 9 true 1 0 0 0 [13]:=fun c L y G h Nx=>by kernel_rfl
theorem rdas0_10f0:RdAsL 0 10 false 1 0 0 0 [1,2,3,4,5,6]:=fun c L y G h Nx=>by kernel_rfl
theorem rdas0_10f1:RdAsL 0 10 false 1 0 0 0 [7,8,9,10,11,12]:=fun c L y G h Nx=>by kernel_rfl
theorem rdas0_10f2:RdAsL 0 10 false 1 0 0 0 [14,15]:=fun c L y G h Nx=>by kernel_rfl
theorem rdas0_10f3:RdAsL 0 10 false 1 0 0 0 [0]:=fun c L y G h Nx=>by kernel_rfl
theorem rdas0_10f4:RdAsL 0 10 false 1 0 0 0 [13]:=fun c L y G h Nx=>by kernel_rfl
theorem rdas0_10t0:RdAsL 0 10 true 1 0 0 0 [2,3,4,5,6,7]:=fun c L y G h Nx=>by kernel_rfl
theorem rdas0_10t1:RdAsL 0 10 true 1 0 0 0 [8,9,10,11,12,14]:=fun c L y G h Nx=>by kernel_rfl
theorem rdas0_10t2:RdAsL 0 10 true 1 0 0 0 [15]:=fun c L y G h Nx=>by kernel_rfl
theorem rdas0_10t3:RdAsL 0 10 true 1 0 0 0 [1]:=fun c L y G h Nx=>by kernel_rfl
theorem rdas0_10t4:RdAsL 0 10 true 1 0 0 0 [13]:=fun c L y G h Nx=>by kernel_rfl
theorem rdas0_11f0:RdAsL 0 11 false 1 0 0 0 [1,2,3,4,5,6]:=fun c L y G h Nx=>by kernel_rfl
theorem rdas0_11f1:RdAsL 0 11 false 1 0 0 0 [7,8,9,10,11,12]:=fun c L y G h Nx=>by kernel_rfl
theorem rdas0_11f2:RdAsL 0 11 false 1 0 0 0 [14,15]:=fun c L y G h Nx=>by kernel_rfl
theorem rdas0_11f3:RdAsL 0 11 false 1 0 0 0 [0]:=fun c L y G h Nx=>by kernel_rfl
theorem rdas0_11f4:RdAsL 0 11 false 1 0 0 0 [13]:=fun c L y G h Nx=>by kernel_rfl
theorem rdas0_11t0:RdAsL 0 11 true 1 0 0 0 [2,3,4,5,6,7]:=fun c L y G h Nx=>by kernel_rfl
theorem rdas0_11t1:RdAsL 0 11 true 1 0 0 0 [8,9,10,11,12,14]:=fun c L y G h Nx=>by kernel_rfl
theorem rdas0_11t2:RdAsL 0 11 true 1 0 0 0 [15]:=fun c L y G h Nx=>by kernel_rfl
theorem rdas0_11t3:RdAsL 0 11 true 1 0 0 0 [1]:=fun c L y G h Nx=>by kernel_rfl
theorem rdas0_11t4:RdAsL 0 11 true 1 0 0 0 [13]:=fun c L y G h Nx=>by kernel_rfl
theorem rdas1_0t0(n N:Int)(r:Nat):RdAsL 1 0 true 0 n N r [1,2,3,4,5,6]:=fun c L y G h Nx=>by kernel_rfl
theorem rdas1_0t1(n N:Int)(r:Nat):RdAsL 1 0 true 0 n N r [7,8,9,10,11,12]:=fun c L y G h Nx=>by kernel_rfl
theorem rdas1_0t2(n N:Int)(r:Nat):RdAsL 1 0 true 0 n N r [13,14,15,16]:=fun c L y G h Nx=>by kernel_rfl
theorem rdas1_1f0(n N:Int)(r:Nat):RdAsL 1 1 false 0 n N r [1,2,3,4,5,6]:=fun c L y G h Nx=>by kernel_rfl
theorem rdas1_1f1(n N:Int)(r:Nat):RdAsL 1 1 false 0 n N r [7,8,9,10,11,12]:=fun c L y G h Nx=>by kernel_rfl
end Go.Proofs.YtibobihgolfplaaGreatDoor.Ev
