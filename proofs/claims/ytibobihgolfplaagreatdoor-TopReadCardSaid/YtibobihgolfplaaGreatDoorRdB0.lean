/-
  TopRead: a read is asked for and served. (Printed by tools/read.py.)
-/
import Derived.Test.YtibobihgolfplaaGreatDoorJ4
set_option linter.unusedVariables false
set_option maxRecDepth 1000000
namespace Go.Proofs.YtibobihgolfplaaGreatDoor.Ev
open Go
theorem rdas0_0f0:RdAsL 0 0 false 1 0 0 0 [0]:=fun c L y G h Nx=>by kernel_rfl
theorem rdas0_0t0:RdAsL 0 0 true 1 0 0 0 [1,2,3,4,5,6]:=fun c L y G h Nx=>by kernel_rfl
theorem rdas0_0t1:RdAsL 0 0 true 1 0 0 0 [7,8,9,10,11,12]:=fun c L y G h Nx=>by kernel_rfl
theorem rdas0_0t2:RdAsL 0 0 true 1 0 0 0 [14,15]:=fun c L y G h Nx=>by kernel_rfl
theorem rdas0_0t3:RdAsL 0 0 true 1 0 0 0 [13]:=fun c L y G h Nx=>by kernel_rfl
theorem rdas0_1f0:RdAsL 0 1 false 1 0 0 0 [1,2,3,4,5,6]:=fun c L y G h Nx=>by kernel_rfl
theorem rdas0_1f1:RdAsL 0 1 false 1 0 0 0 [7,8,9,10,11,12]:=fun c L y G h Nx=>by kernel_rfl
theorem rdas0_1f2:RdAsL 0 1 false 1 0 0 0 [14,15]:=fun c L y G h Nx=>by kernel_rfl
theorem rdas0_1f3:RdAsL 0 1 false 1 0 0 0 [0]:=fun c L y G h Nx=>by kernel_rfl
theorem rdas0_1f4:RdAsL 0 1 false 1 0 0 0 [13]:=fun c L y G h Nx=>by kernel_rfl
theorem rdas0_1t0:RdAsL 0 1 true 1 0 0 0 [2,3,4,5,6,7]:=fun c L y G h Nx=>by kernel_rfl
theorem rdas0_1t1:RdAsL 0 1 true 1 0 0 0 [8,9,10,11,12,14]:=fun c L y G h Nx=>by kernel_rfl
theorem rdas0_1t2:RdAsL 0 1 true 1 0 0 0 [15]:=fun c L y G h Nx=>by kernel_rfl
theorem rdas0_1t3:RdAsL 0 1 true 1 0 0 0 [1]:=fun c L y G h Nx=>by kernel_rfl
theorem rdas0_1t4:RdAsL 0 1 true 1 0 0 0 [13]:=fun c L y G h Nx=>by kernel_rfl
theorem rdas0_2f0:RdAsL 0 2 false 1 0 0 0 [1,2,3,4,5,6]:=fun c L y G h Nx=>by kernel_rfl
theorem rdas0_2f1:RdAsL 0 2 false 1 0 0 0 [7,8,9,10,11,12]:=fun c L y G h Nx=>by kernel_rfl
theorem rdas0_2f2:RdAsL 0 2 false 1 0 0 0 [14,15]:=fun c L y G h Nx=>by kernel_rfl
theorem rdas0_2f3:RdAsL 0 2 false 1 0 0 0 [0]:=fun c L y G h Nx=>by kernel_rfl
theorem rdas0_2f4:RdAsL 0 2 false 1 0 0 0 [13]:=fun c L y G h Nx=>by kernel_rfl
theorem rdas0_2t0:RdAsL 0 2 true 1 0 0 0 [2,3,4,5,6,7]:=fun c L y G h Nx=>by kernel_rfl
theorem rdas0_2t1:RdAsL 0 2 true 1 0 0 0 [8,9,10,11,12,14]:=fun c L y G h Nx=>by kernel_rfl
theorem rdas0_2t2:RdAsL 0 2 true 1 0 0 0 [15]:=fun c L y G h Nx=>by kernel_rfl
theorem rdas0_2t3:RdAsL 0 2 true 1 0 0 0 [1]:=fun c L y G h Nx=>by kernel_rfl
theorem rdas0_2t4:RdAsL 0 2 true 1 0 0 0 [13]:=fun c L y G h Nx=>by kernel_rfl
theorem rdas0_3f0:RdAsL 0 3 false 1 0 0 0 [1,2,3,4,5,6]:=fun c L y G h Nx=>by kernel_rfl
theorem rdas0_3f1:RdAsL 0 3 false 1 0 0 0 [7,8,9,10,11,12]:=fun c L y G h Nx=>by kernel_rfl
theorem rdas0_3f2:RdAsL 0 3 false 1 0 0 0 [14,15]:=fun c L y G h Nx=>by kernel_rfl
theorem rdas0_3f3:RdAsL 0 3 false 1 0 0 0 [0]:=fun c L y G h Nx=>by kernel_rfl
theorem rdas0_3f4:RdAsL 0 3 false 1 0 0 0 [13]:=fun c L y G h Nx=>by kernel_rfl
theorem rdas0_3t0:RdAsL 0 3 true 1 0 0 0 [2,3,4,5,6,7]:=fun c L y G h Nx=>by kernel_rfl
theorem rdas0_3t1:RdAsL 0 3 true 1 0 0 0 [8,9,10,11,12,14]:=fun c L y G h Nx=>by kernel_rfl
theorem rdas0_3t2:RdAsL 0 3 true 1 0 0 0 [15]:=fun c L y G h Nx=>by kernel_rfl
theorem rdas0_3t3:RdAsL 0 3 true 1 0 0 0 [1]:=fun c L y G h Nx=>by kernel_rfl
theorem rdas0_3t4:RdAsL 0 3 true 1 0 0 0 [13]:=fun c L y G h Nx=>by kernel_rfl
theorem rdas0_4f0:RdAsL 0 4 false 1 0 0 0 [1,2,3,4,5,6]:=fun c L y G h Nx=>by kernel_rfl
theorem rdas0_4f1:RdAsL 0 4 false 1 0 0 0 [7,8,9,10,11,12]:=fun c L y G h Nx=>by kernel_rfl
theorem rdas0_4f2:RdAsL 0 4 false 1 0 0 0 [14,15]:=fun c L y G h Nx=>by kernel_rfl
theorem rdas0_4f3:RdAsL 0 4 false 1 0 0 0 [0]:=fun c L y G h Nx=>by kernel_rfl
theorem rdas0_4f4:RdAsL 0 4 false 1 0 0 0 [13]:=fun c L y G h Nx=>by kernel_rfl
theorem rdas0_4t0:RdAsL 0 4 true 1 0 0 0 [2,3,4,5,6,7]:=fun c L y G h Nx=>by kernel_rfl
end Go.Proofs.YtibobihgolfplaaGreatDoor.Ev
