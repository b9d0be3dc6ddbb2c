/-
  TopRead: short pieces. (Printed by tools/read.py.)
-/
import Derived.Test.YtibobihgolfplaaGreatDoorJ3
set_option linter.unusedVariables false
set_option maxRecDepth 1000000
namespace Go.Proofs.YtibobihgolfplaaGreatDoor.Ev
open Go
theorem rdhd0:RdHdL 0 [0]:=fun k c L y G o n N r h v Nx=>by kernel_rfl
theorem rdex0:RdExL 0 [0]:=fun k c L y G o n N r h v Nx=>by kernel_rfl
theorem rdzr0:RdZrL 0 [0]:=fun k c L y G o n N r h v Nx=>by kernel_rfl
theorem rdhd1:RdHdL 1 [0,1,2,3,4,5]:=fun k c L y G o n N r h v Nx=>by kernel_rfl
theorem rdex1:RdExL 1 [0,1,2,3,4,5]:=fun k c L y G o n N r h v Nx=>by kernel_rfl
theorem rdzr1:RdZrL 1 [0,1,2,3,4,5]:=fun k c L y G o n N r h v Nx=>by kernel_rfl
theorem rdtl0:RdTlL 0 [0,1,2,3,4,5]:=fun k c L y G o n N r h v Nx=>by kernel_rfl
theorem rdhd2:RdHdL 2 [0,1,2,3,4,5]:=fun k c L y G o n N r h v Nx=>by kernel_rfl
theorem rdex2:RdExL 2 [0,1,2,3,4,5]:=fun k c L y G o n N r h v Nx=>by kernel_rfl
theorem rdzr2:RdZrL 2 [0,1,2,3,4,5]:=fun k c L y G o n N r h v Nx=>by kernel_rfl
theorem rdtl1:RdTlL 1 [0,1,2,3,4,5]:=fun k c L y G o n N r h v Nx=>by kernel_rfl
theorem rdhd3:RdHdL 3 [0,1,2,3,4,5]:=fun k c L y G o n N r h v Nx=>by kernel_rfl
theorem rdex3:RdExL 3 [0,1,2,3,4,5]:=fun k c L y G o n N r h v Nx=>by kernel_rfl
theorem rdzr3:RdZrL 3 [0,1,2,3,4,5]:=fun k c L y G o n N r h v Nx=>by kernel_rfl
theorem rdtl2:RdTlL 2 [0,1,2,3,4,5]:=fun k c L y G o n N r h v Nx=>by kernel_rfl
theorem rdhd4:RdHdL 4 [0,1,2,3,4,5]:=fun k c L y G o n N r h v Nx=>by kernel_rfl
theorem rdex4:RdExL 4 [0,1,2,3,4,5]:=fun k c L y G o n N r h v Nx=>by kernel_rfl
theorem rdzr4:RdZrL 4 [0,1,2,3,4,5]:=fun k c L y G o n N r h v Nx=>by kernel_rfl
theorem rdtl3:RdTlL 3 [0,1,2,3,4,5]:=fun k c L y G o n N r h v Nx=>by kernel_rfl
theorem rdhd5:RdHdL 5 [0,1,2,3,4,5]:=fun k c L y G o n N r h v Nx=>by kernel_rfl
theorem rdex5:RdExL 5 [0,1,2,3,4,5]:=fun k c L y G o n N r h v Nx=>by kernel_rfl
theorem rdzr5:RdZrL 5 [0,1,2,3,4,5]:=fun k c L y G o n N r h v Nx=>by kernel_rfl
theorem rdtl4:RdTlL 4 [0,1,2,3,4,5]:=fun k c L y G o n N r h v Nx=>by kernel_rfl
theorem rdhd6:RdHdL 6 [0,1,2,3,4,5]:=fun k c L y G o n N r h v Nx=>by kernel_rfl
theorem rdex6:RdExL 6 [0,1,2,3,4,5]:=fun k c L y G o n N r h v Nx=>by kernel_rfl
theorem rdzr6:RdZrL 6 [0,1,2,3,4,5]:=fun k c L y G o n N r h v Nx=>by kernel_rfl
theorem rdtl5:RdTlL 5 [0,1,2,3,4,5]:=fun k c L y G o n N r h v Nx=>by kernel_rfl
theorem rdhd7:RdHdL 7 [0,1,2,3,4,5]:=fun k c L y G o n N r h v Nx=>by kernel_rfl
theorem rdex7:RdExL 7 [0,1,2,3,4,5]:=fun k c L y G o n N r h v Nx=>by kernel_rfl
theorem rdzr7:RdZrL 7 [0,1,2,3,4,5]:=fun k c L y G o n N r h v Nx=>by kernel_rfl
theorem rdtl6:RdTlL 6 [0,1,2,3,4,5]:=fun k c L y G o n N r h v Nx=>by kernel_rfl
theorem rdhd8:RdHdL 8 [0,1,2,3,4,5]:=fun k c L y G o n N r h v Nx=>by kernel_rfl
theorem rdex8:RdExL 8 [0,1,2,3,4,5]:=fun k c L y G o n N r h v Nx=>by kernel_rfl
theorem rdzr8:RdZrL 8 [0,1,2,3,4,5]:=fun k c L y G o n N r h v Nx=>by kernel_rfl
theorem rdtl7:RdTlL 7 [0,1,2,3,4,5]:=fun k c L y G o n N r h v Nx=>by kernel_rfl
theorem rdhd9:RdHdL 9 [0,1,2,3,4,5]:=fun k c L y G o n N r h v Nx=>by kernel_rfl
theorem rdex9:RdExL 9 [0,1,2,3,4,5]:=fun k c L y G o n N r h v Nx=>by kernel_rfl
theorem rdzr9:RdZrL 9 [0,1,2,3,4,5]:=fun k c L y G o n N r h v Nx=>by kernel_rfl
theorem rdtl8:RdTlL 8 [0,1,2,3,4,5]:=fun k c L y G o n N r h v Nx=>by kernel_rfl
theorem rdhd10:RdHdL 10 [0,1,2,3,4,5]:=fun k c L y G o n N r h v Nx=>by kernel_rfl
theorem rdex10:RdExL 10 [0,1,2,3,4,5]:=fun k c L y G o n N r h v Nx=>by kernel_rfl
theorem rdzr10:RdZrL 10 [0,1,2,3,4,5]:=fun k c L y G o n N r h v Nx=>by kernel_rfl
theorem rdtl9:RdTlL 9 [0,1,2,3,4,5]:=fun k c L y G o n N r h v Nx=>by kernel_rfl
theorem rdhd11:RdHdL 11 [0,1,2,3,4,5]:=fun k c L y G o n N r h v Nx=>by kernel_rfl
theorem rdex11:RdExL 11 [0,1,2,3,4,5]:=fun k c L y G o n N r h v Nx=>by kernel_rfl
theorem rdzr11:RdZrL 11 [0,1,2,3,4,5]:=fun k c L y G o n N r h v Nx=>by kernel_rfl
theorem rdtl10:RdTlL 10 [0,1,2,3,4,5]:=fun k c L y G o n N r h v Nx=>by kernel_rfl
theorem rdex12:RdExL 12 [0,1,2,3,4,5]:=fun k c L y G o n N r h v Nx=>by kernel_rfl
theorem rdtl11:RdTlL 11 [0,1,2,3,4,5]:=fun k c L y G o n N r h v Nx=>by kernel_rfl
theorem rdxi0f:RdXiL 0 false [0]:=fun c L y G o n N r h s Nx=>by kernel_rfl
theorem rdxi0t:RdXiL 0 true [1,2,3,4,5,6,7,8,9,10,11,12,13,14,15,16]:=fun c L y G o n N r h s Nx=>by kernel_rfl
theorem rdxi1f:RdXiL 1 false [0,1,2,3,4,5,6,7,8,9,10,11,12,13,14,15,16]:=fun c L y G o n N r h s Nx=>by kernel_rfl
theorem rdxi1t:RdXiL 1 true [1,2,3,4,5,6,7,8,9,10,11,12,13,14,15,16]:=fun c L y G o n N r h s Nx=>by kernel_rfl
theorem rdxi2f:RdXiL 2 false [0,1,2,3,4,5,6,7,8,9,10,11,12,13,14,15,16]:=fun c L y G o n N r h s Nx=>by kernel_rfl
theorem rdxi2t:RdXiL 2 true [1,2,3,4,5,6,7,8,9,10,11,12,13,14,15,16]:=fun c L y G o n N r h s Nx=>by kernel_rfl
theorem rdxi3f:RdXiL 3 false [0,1,2,3,4,5,6,7,8,9,10,11,12,13,14,15,16]:=fun c L y G o n N r h s Nx=>by kernel_rfl
theorem rdxi3t:RdXiL 3 true [1,2,3,4,5,6,7,8,9,10,11,12,13,14,15,16]:=fun c L y G o n N r h s Nx=>by kernel_rfl
theorem rdxi4f:RdXiL 4 false [0,1,2,3,4,5,6,7,8,9,10,11,12,13,14,15,16]:=fun c L y G o n N r h s Nx=>by kernel_rfl
theorem rdxi4t:RdXiL 4 true [1,2,3,4,5,6,7,8,9,10,11,12,13,14,15,16]:=fun c L y G o n N r h s Nx=>by kernel_rfl
theorem rdxi5f:RdXiL 5 false [0,1,2,3,4,5,6,7,8,9,10,11,12,13,14,15,16]:=fun c L y G o n N r h s Nx=>by kernel_rfl
theorem rdxi5t:RdXiL 5 true [1,2,3,4,5,6,7,8,9,10,11,12,13,14,15,16]:=fun c L y G o n N r h s Nx=>by kernel_rfl
theorem rdxi6f:RdXiL 6 false [0,1,2,3,4,5,6,7,8,9,10,11,12,13,14,15,16]:=fun c L y G o n N r h s Nx=>by kernel_rfl
theorem rdxi6t:RdXiL 6 true [1,2,3,4,5,6,7,8,9,10,11,12,13,14,15,16]:=fun c L y G o n N r h s Nx=>by kernel_rfl
theorem rdxi7f:RdXiL 7 false [0,1,2,3,4,5,6,7,8,9,10,11,12,13,14,15,16]:=fun c L y G o n N r h s Nx=>by kernel_rfl
theorem rdxi7t:RdXiL 7 true [1,2,3,4,5,6,7,8,9,10,11,12,13,14,15,16]:=fun c L y G o n N r h s Nx=>by kernel_rfl
theorem rdxi8f:RdXiL 8 false [0,1,2,3,4,5,6,7,8,9,10,11,12,13,14,15,16]:=fun c L y G o n N r h s Nx=>by kernel_rfl
theorem rdxi8t:RdXiL 8 true [1,2,3,4,5,6,7,8,9,10,11,12,13,14,15,16]:=fun c L y G o n N r h s Nx=>by kernel_rfl
theorem rdxi9f:RdXiL 9 false [0,1,2,3,4,5,6,7,8,9,10,11,12,13,14,15,16]:=fun c L y G o n N r h s Nx=>by kernel_rfl
theorem rdxi9t:RdXiL 9 true [1,2,3,4,5,6,7,8,9,10,11,12,13,14,15,16]:=fun c L y G o n N r h s Nx=>by kernel_rfl
theorem rdxi10f:RdXiL 10 false [0,1,2,3,4,5,6,7,8,9,10,11,12,13,14,15,16]:=fun c L y G o n N r h s Nx=>by kernel_rfl
theorem rdxi10t:RdXiL 10 true [1,2,3,4,5,6,7,8,9,10,11,12,13,14,15,16]:=fun c L y G o n N r h s Nx=>by kernel_rfl
theorem rdxi11f:RdXiL 11 false [0,1,2,3,4,5,6,7,8,9,10,11,12,13,14,15,16]:=fun c L y G o n N r h s Nx=>by kernel_rfl
theorem rdxi11t:RdXiL 11 true [1,2,3,4,5,6,7,8,9,10,11,12,13,14,15,16]:=fun c L y G o n N r h s Nx=>by kernel_rfl
end Go.Proofs.YtibobihgolfplaaGreatDoor.Ev
