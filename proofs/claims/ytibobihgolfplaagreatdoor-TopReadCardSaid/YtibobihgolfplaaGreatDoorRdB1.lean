/-
  TopRead: a read is asked for and served. (Printed by tools/read.py.)
-/
import Derived.Test.YtibobihgolfplaaGreatDoorJ4
set_option linter.unusedVariables false
set_option maxRecDepth 1000000
namespace Go.Proofs.YtibobihgolfplaaGreatDoor.Ev
open Go
theorem rdas0_4t1:RdAsL 0 4 true 1 0 0 0 [8,9,10,11,12,14]:=fun c L y G h Nx=>by kernel_rfl
theorem rdas0_4t2:RdAsL 0 4 true 1 0 0 0 [15]:=fun c L y G h Nx=>by kernel_rfl
theorem rdas0_4t3:RdAsL 0 4 true 1 0 0 0 [1]:=fun c L y G h Nx=>by kernel_rfl
theorem rdas0_4t4:RdAsL 0 4 true 1 0 0 0 [13]:=fun c L y G h Nx=>by kernel_rfl
theorem rdas0_5f0:RdAsL 0 5 false 1 0 0 0 [1,2,3,4,5,6]:=fun c L y G h Nx=>by kernel_rfl
theorem rdas0_5f1:RdAsL 0 5 false 1 0 0 0 [7,8,9,10,11,12]:=fun c L y G h Nx=>by kernel_rfl
theorem rdas0_5f2:RdAsL 0 5 false 1 0 0 0 [14,15]:=fun c L y G h Nx=>by kernel_rfl
theorem rdas0_5f3:RdAsL 0 5 false 1 0 0 0 [0]:=fun c L y G h Nx=>by kernel_rfl
theorem rdas0_5f4:RdAsL 0 5 false 1 0 0 0 [13]:=fun c L y G h Nx=>by kernel_rfl
theorem rdas0_5t0:RdAsL 0 5 true 1 0 0 0 [2,3,4,5,6,7]:=fun c L y G h Nx=>by kernel_rfl
theorem rdas0_5t1:RdAsL 0 5 true 1 0 0 0 [8,9,10,11,12,14]:=fun c L y G h Nx=>by kernel_rfl
theorem rdas0_5t2:RdAsL 0 5 true 1 0 0 0 [15]:=fun c L y G h Nx=>by kernel_rfl
theorem rdas0_5t3:RdAsL 0 5 true 1 0 0 0 [1]:=fun c L y G h Nx=>by kernel_rfl
theorem rdas0_5t4:RdAsL 0 5 true 1 0 0 0 [13]:=fun c L y G h Nx=>by kernel_rfl
theorem rdas0_6f0:RdAsL 0 6 false 1 0 0 0 [1,2,3,4,5,6]:=fun c L y G h Nx=>by kernel_rfl
theorem rdas0_6f1:RdAsL 0 6 false 1 0 0 0 [7,8,9,10,11,12]:=fun c L y G h Nx=>by kernel_rfl
theorem rdas0_6f2:RdAsL 0 6 false 1 0 0 0 [14,15]:=fun c L y G h Nx=>by kernel_rfl
theorem rdas0_6f3:RdAsL 0 6 false 1 0 0 0 [0]:=fun c L y G h Nx=>by kernel_rfl
theorem rdas0_6f4:RdAsL 0 6 false 1 0 0 0 [13]:=fun c L y G h Nx=>by kernel_rfl
theorem rdas0_6t0:RdAsL 0 6 true 1 0 0 0 [2,3,4,5,6,7]:=fun c L y G h Nx=>by kernel_rfl
theorem rdas0_6t1:RdAsL 0 6 true 1 0 0 0 [8,9,10,11,12,14]:=fun c L y G h Nx=>by kernel_rfl
theorem rdas0_6t2:RdAsL 0 6 true 1 0 0 0 [15]:=fun c L y G h Nx=>by kernel_rfl
theorem rdas0_6t3:RdAsL 0 6 true 1 0 0 0 [1]:=fun c L y G h Nx=>by kernel_rfl
theorem rdas0_6t4:RdAsL 0 6 true 1 0 0 0 [13]:=fun c L y G h Nx=>by kernel_rfl
theorem rdas0_7f0:RdAsL 0 7 false 1 0 0 0 [1,2,3,4,5,6]:=fun c L y G h Nx=>by kernel_rfl
theorem rdas0_7f1:RdAsL 0 7 false 1 0 0 0 [7,8,9,10,11,12]:=fun c L y G h Nx=>by kernel_rfl
theorem rdas0_7f2:RdAsL 0 7 false 1 0 0 0 [14,15]:=fun c L y G h Nx=>by kernel_rfl
theorem rdas0_7f3:RdAsL 0 7 false 1 0 0 0 [0]:=fun c L y G h Nx=>by kernel_rfl
theorem rdas0_7f4:RdAsL 0 7 false 1 0 0 0 [13]:=fun c L y G h Nx=>by kernel_rfl
theorem rdas0_7t0:RdAsL 0 7 true 1 0 0 0 [2,3,4,5,6,7]:=fun c L y G h Nx=>by kernel_rfl
theorem rdas0_7t1:RdAsL 0 7 true 1 0 0 0 [8,9,10,11,12,14]:=fun c L y G h Nx=>by kernel_rfl
theorem rdas0_7t2:RdAsL 0 7 true 1 0 0 0 [15]:=fun c L y G h Nx=>by kernel_rfl
theorem rdas0_7t3:RdAsL 0 7 true 1 0 0 0 [1]:=fun c L y G h Nx=>by kernel_rfl
theorem rdas0_7t4:RdAsL 0 7 true 1 0 0 0 [13]:=fun c L y G h Nx=>by kernel_rfl
theorem rdas0_8f0:RdAsL 0 8 false 1 0 0 0 [1,2,3,4,5,6]:=fun c L y G h Nx=>by kernel_rfl
theorem rdas0_8f1:RdAsL 0 8 false 1 0 0 0 [7,8,9,10,11,12]:=fun c L y G h Nx=>by kernel_rfl
theorem rdas0_8f2:RdAsL 0 8 false 1 0 0 0 [14,15]:=fun c L y G h Nx=>by kernel_rfl
theorem rdas0_8f3:RdAsL 0 8 false 1 0 0 0 [0]:=fun c L y G h Nx=>by kernel_rfl
theorem rdas0_8f4:RdAsL 0 8 false 1 0 0 0 [13]:=fun c L y G h Nx=>by kernel_rfl
theorem rdas0_8t0:RdAsL 0 8 true 1 0 0 0 [2,3,4,5,6,7]:=fun c L y G h Nx=>by kernel_rfl
end Go.Proofs.YtibobihgolfplaaGreatDoor.Ev
