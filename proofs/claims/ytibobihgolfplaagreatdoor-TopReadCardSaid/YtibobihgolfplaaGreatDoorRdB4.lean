/-
  TopRead: a read is asked for and served. (Printed by tools/read.py.)
-/
import Derived.Test.YtibobihgolfplaaGreatDoorJ4
set_option linter.unusedVariables false
set_option maxRecDepth 1000000
namespace Go.Proofs.YtibobihgolfplaaGreatDoor.Ev
open Go
theorem rdas1_6t1(n N:Int)(r:Nat):RdAsL 1 6 true 0 n N r [7,8,9,10,11,12]:=fun c L y G h Nx=>by kernel_rfl
theorem rdas1_6t2(n N:Int)(r:Nat):RdAsL 1 6 true 0 n N r [13,14,15,16]:=fun c L y G h Nx=>by kernel_rfl
theorem rdas1_7f0(n N:Int)(r:Nat):RdAsL 1 7 false 0 n N r [1,2,3,4,5,6]:=fun c L y G h Nx=>by kernel_rfl
theorem rdas1_7f1(n N:Int)(r:Nat):RdAsL 1 7 false 0 n N r [7,8,9,10,11,12]:=fun c L y G h Nx=>by kernel_rfl
theorem rdas1_7f2(n N:Int)(r:Nat):RdAsL 1 7 false 0 n N r [13,14,15,16]:=fun c L y G h Nx=>by kernel_rfl
theorem rdas1_7t0(n N:Int)(r:Nat):RdAsL 1 7 true 0 n N r [1,2,3,4,5,6]:=fun c L y G h Nx=>by kernel_rfl
theorem rdas1_7t1(n N:Int)(r:Nat):RdAsL 1 7 true 0 n N r [7,8,9,10,11,12]:=fun c L y G h Nx=>by kernel_rfl
theorem rdas1_7t2(n N:Int)(r:Nat):RdAsL 1 7 true 0 n N r [13,14,15,16]:=fun c L y G h Nx=>by kernel_rfl
theorem rdas1_8f0(n N:Int)(r:Nat):RdAsL 1 8 false 0 n N r [1,2,3,4,5,6]:=fun c L y G h Nx=>by kernel_rfl
theorem rdas1_8f1(n N:Int)(r:Nat):RdAsL 1 8 false 0 n N r [7,8,9,10,11,12]:=fun c L y G h Nx=>by kernel_rfl
theorem rdas1_8f2(n N:Int)(r:Nat):RdAsL 1 8 false 0 n N r [13,14,15,16]:=fun c L y G h Nx=>by kernel_rfl
theorem rdas1_8t0(n N:Int)(r:Nat):RdAsL 1 8 true 0 n N r [1,2,3,4,5,6]:=fun c L y G h Nx=>by kernel_rfl
theorem rdas1_8t1(n N:Int)(r:Nat):RdAsL 1 8 true 0 n N r [7,8,9,10,11,12]:=fun c L y G h Nx=>by kernel_rfl
theorem rdas1_8t2(n N:Int)(r:Nat):RdAsL 1 8 true 0 n N r [13,14,15,16]:=fun c L y G h Nx=>by kernel_rfl
theorem rdas1_9f0(n N:Int)(r:Nat):RdAsL 1 9 false 0 n N r [1,2,3,4,5,6]:=fun c L y G h Nx=>by kernel_rfl
theorem rdas1_9f1(n N:Int)(r:Nat):RdAsL 1 9 false 0 n N r [7,8,9,10,11,12]:=fun c L y G h Nx=>by kernel_rfl
theorem rdas1_9f2(n N:Int)(r:Nat):RdAsL 1 9 false 0 n N r [13,14,15,16]:=fun c L y G h Nx=>by kernel_rfl
theorem rdas1_9t0(n N:Int)(r:Nat):RdAsL 1 9 true 0 n N r [1,2,3,4,5,6]:=fun c L y G h Nx=>by kernel_rfl
theorem rdas1_9t1(n N:Int)(r:Nat):RdAsL 1 9 true 0 n N r [7,8,9,10,11,12]:=fun c L y G h Nx=>by kernel_rfl
theorem rdas1_9t2(n N:Int)(r:Nat):RdAsL 1 9 true 0 n N r [13,14,15,16]:=fun c L y G h Nx=>by kernel_rfl
theorem rdas1_10f0(n N:Int)(r:Nat):RdAsL 1 10 false 0 n N r [1,2,3,4,5,6]:=fun c L y G h Nx=>by kernel_rfl
theorem rdas1_10f1(n N:Int)(r:Nat):RdAsL 1 10 false 0 n N r [7,8,9,10,11,12]:=fun c L y G h Nx=>by kernel_rfl
theorem rdas1_10f2(n N:Int)(r:Nat):RdAsL 1 10 false 0 n N r [13,14,15,16]:=fun c L y G h Nx=>by kernel_rfl
theorem rdas1_10t0(n N:Int)(r:Nat):RdAsL 1 10 true 0 n N r [1,2,3,4,5,6]:=fun c L y G h Nx=>by kernel_rfl
theorem rdas1_10t1(n N:Int)(r:Nat):RdAsL 1 10 true 0 n N r [7,8,9,10,11,12]:=fun c L y G h Nx=>by kernel_rfl
theorem rdas1_10t2(n N:Int)(r:Nat):RdAsL 1 10 true 0 n N r [13,14,15,16]:=fun c L y G h Nx=>by kernel_rfl
theorem rdas1_11f0(n N:Int)(r:Nat):RdAsL 1 11 false 0 n N r [1,2,3,4,5,6]:=fun c L y G h Nx=>by kernel_rfl
theorem rdas1_11f1(n N:Int)(r:Nat):RdAsL 1 11 false 0 n N r [7,8,9,10,11,12]:=fun c L y G h Nx=>by kernel_rfl
theorem rdas1_11f2(n N:Int)(r:Nat):RdAsL 1 11 false 0 n N r [13,14,15,16]:=fun c L y G h Nx=>by kernel_rfl
theorem rdas1_11t0(n N:Int)(r:Nat):RdAsL 1 11 true 0 n N r [1,2,3,4,5,6]:=fun c L y G h Nx=>by kernel_rfl
theorem rdas1_11t1(n N:Int)(r:Nat):RdAsL 1 11 true 0 n N r [7,8,9,10,11,12]:=fun c L y G h Nx=>by kernel_rfl
theorem rdas1_11t2(n N:Int)(r:Nat):RdAsL 1 11 true 0 n N r [13,14,15,16]:=fun c L y G h Nx=>by kernel_rfl
end Go.Proofs.YtibobihgolfplaaGreatDoor.Ev
