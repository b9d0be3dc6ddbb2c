/-
  TopRead: all cases of its pieces. (Printed by tools/read.py.)
-/
import Derived.Test.YtibobihgolfplaaGreatDoorRdA0
import Derived.Test.YtibobihgolfplaaGreatDoorRdA1
import Derived.Test.YtibobihgolfplaaGreatDoorRdB0
import Derived.Test.YtibobihgolfplaaGreatDoorRdB1
import Derived.Test.YtibobihgolfplaaGreatDoorRdB2
import Derived.Test.YtibobihgolfplaaGreatDoorRdB3
import Derived.Test.YtibobihgolfplaaGreatDoorRdB4
import Derived.Test.YtibobihgolfplaaGreatDoorRdD0
import Derived.Test.YtibobihgolfplaaGreatDoorRdD1
import Derived.Test.YtibobihgolfplaaGreatDoorRdD2
import Derived.Test.YtibobihgolfplaaGreatDoorRdD3
import Derived.Test.YtibobihgolfplaaGreatDoorRdD4
import Derived.Test.YtibobihgolfplaaGreatDoorRdD5
import Derived.Test.YtibobihgolfplaaGreatDoorRdD6
import Derived.Test.YtibobihgolfplaaGreatDoorRdD7
import Derived.Test.YtibobihgolfplaaGreatDoorRx
import Derived.Test.YtibobihgolfplaaGreatDoorRdH
import Derived.Test.YtibobihgolfplaaGreatDoorGh
import Derived.Test.YtibobihgolfplaaGreatDoorGi
import Derived.Test.YtibobihgolfplaaGreatDoorJ3
set_option maxRecDepth 1000000
set_option linter.unusedVariables false
section
namespace Go.Proofs.YtibobihgolfplaaGreatDoor.Ev
open Go
theorem rdMem{l:List Nat}{a n x:Nat}(h1:a≤x)(h2:x≤n)(h:(List.range (n+1)).all (fun x=> !(Nat.ble a x)||l.elem x)=true):x∈l:=by
 rw[List.all_eq_true]at h
 have:=h x (List.mem_range.2 (by omega))
 rw[show Nat.ble a x=true from Nat.ble_eq_true_of_le h1]at this
 simpa using this
theorem rdInQ0{i ph:Nat}{b:Bool}(hi:i≤11)(hp:ph≤15)(hb1:b=true→1≤ph)(hb0:b=false→i=0→ph=0):RdIn 0 i ph b 1 0 0 0:=by
 match i,b,hi,hb1,hb0 with
 |0,false,_,h1,h2=>have:=h2 rfl rfl;exact rdin0_0f0.at (rdMem (a:=0) (n:=0) (by omega) (by omega) (by rfl))
 |0,true,_,h1,h2=>have:=h1 rfl;exact rdin0_0t0.at (rdMem (a:=1) (n:=15) (by omega) (by omega) (by rfl))
 |1,false,_,h1,h2=>exact rdin0_1f0.at (rdMem (a:=0) (n:=15) (by omega) (by omega) (by rfl))
 |1,true,_,h1,h2=>have:=h1 rfl;exact rdin0_1t0.at (rdMem (a:=1) (n:=15) (by omega) (by omega) (by rfl))
 |2,false,_,h1,h2=>exact rdin0_2f0.at (rdMem (a:=0) (n:=15) (by omega) (by omega) (by rfl))
 |2,true,_,h1,h2=>have:=h1 rfl;exact rdin0_2t0.at (rdMem (a:=1) (n:=15) (by omega) (by omega) (by rfl))
 |3,false,_,h1,h2=>exact rdin0_3f0.at (rdMem (a:=0) (n:=15) (by omega) (by omega) (by rfl))
 |3,true,_,h1,h2=>have:=h1 rfl;exact rdin0_3t0.at (rdMem (a:=1) (n:=15) (by omega) (by omega) (by rfl))
 |4,false,_,h1,h2=>exact rdin0_4f0.at (rdMem (a:=0) (n:=15) (by omega) (by omega) (by rfl))
 |4,true,_,h1,h2=>have:=h1 rfl;exact rdin0_4t0.at (rdMem (a:=1) (n:=15) (by omega) (by omega) (by rfl))
 |5,false,_,h1,h2=>exact rdin0_5f0.at (rdMem (a:=0) (n:=15) (by omega) (by omega) (by rfl))
 |5,true,_,h1,h2=>have:=h1 rfl;exact rdin0_5t0.at (rdMem (a:=1) (n:=15) (by omega) (by omega) (by rfl))
 |6,false,_,h1,h2=>exact rdin0_6f0.at (rdMem (a:=0) (n:=15) (by omega) (by omega) (by rfl))
 |6,true,_,h1,h2=>have:=h1 rfl;exact rdin0_6t0.at (rdMem (a:=1) (n:=15) (by omega) (by omega) (by rfl))
 |7,false,_,h1,h2=>exact rdin0_7f0.at (rdMem (a:=0) (n:=15) (by omega) (by omega) (by rfl))
 |7,true,_,h1,h2=>have:=h1 rfl;exact rdin0_7t0.at (rdMem (a:=1) (n:=15) (by omega) (by omega) (by rfl))
 |8,false,_,h1,h2=>exact rdin0_8f0.at (rdMem (a:=0) (n:=15) (by omega) (by omega) (by rfl))
 |8,true,_,h1,h2=>have:=h1 rfl;exact rdin0_8t0.at (rdMem (a:=1) (n:=15) (by omega) (by omega) (by rfl))
 |9,false,_,h1,h2=>exact rdin0_9f0.at (rdMem (a:=0) (n:=15) (by omega) (by omega) (by rfl))
 |9,true,_,h1,h2=>have:=h1 rfl;exact rdin0_9t0.at (rdMem (a:=1) (n:=15) (by omega) (by omega) (by rfl))
 |10,false,_,h1,h2=>exact rdin0_10f0.at (rdMem (a:=0) (n:=15) (by omega) (by omega) (by rfl))
 |10,true,_,h1,h2=>have:=h1 rfl;exact rdin0_10t0.at (rdMem (a:=1) (n:=15) (by omega) (by omega) (by rfl))
 |11,false,_,h1,h2=>exact rdin0_11f0.at (rdMem (a:=0) (n:=15) (by omega) (by omega) (by rfl))
 |11,true,_,h1,h2=>have:=h1 rfl;exact rdin0_11t0.at (rdMem (a:=1) (n:=15) (by omega) (by omega) (by rfl))
 |i+12,_,h,_,_=>omega
theorem rdInQ1(n N:Int)(r:Nat){i ph:Nat}{b:Bool}(hi:i≤11)(hp:ph≤16)(h1:1≤ph)(hb1:b=true→1≤ph)(hb0:b=false→i=0→ph=0):RdIn 1 i ph b 0 n N r:=by
 match i,b,hi,hb1,hb0 with
 |0,false,_,h1,h2=>exact absurd (h2 rfl rfl) (by omega)
 |0,true,_,h1,h2=>have:=h1 rfl;exact(rdin1_0t0 n N r).at (rdMem (a:=1) (n:=16) (by omega) (by omega) (by rfl))
 |1,false,_,h1,h2=>exact(rdin1_1f0 n N r).at (rdMem (a:=1) (n:=16) (by omega) (by omega) (by rfl))
 |1,true,_,h1,h2=>have:=h1 rfl;exact(rdin1_1t0 n N r).at (rdMem (a:=1) (n:=16) (by omega) (by omega) (by rfl))
 |2,false,_,h1,h2=>exact(rdin1_2f0 n N r).at (rdMem (a:=1) (n:=16) (by omega) (by omega) (by rfl))
 |2,true,_,h1,h2=>have:=h1 rfl;exact(rdin1_2t0 n N r).at (rdMem (a:=1) (n:=16) (by omega) (by omega) (by rfl))
 |3,false,_,h1,h2=>exact(rdin1_3f0 n N r).at (rdMem (a:=1) (n:=16) (by omega) (by omega) (by rfl))
 |3,true,_,h1,h2=>have:=h1 rfl;exact(rdin1_3t0 n N r).at (rdMem (a:=1) (n:=16) (by omega) (by omega) (by rfl))
 |4,false,_,h1,h2=>exact(rdin1_4f0 n N r).at (rdMem (a:=1) (n:=16) (by omega) (by omega) (by rfl))
 |4,true,_,h1,h2=>have:=h1 rfl;exact(rdin1_4t0 n N r).at (rdMem (a:=1) (n:=16) (by omega) (by omega) (by rfl))
 |5,false,_,h1,h2=>exact(rdin1_5f0 n N r).at (rdMem (a:=1) (n:=16) (by omega) (by omega) (by rfl))
 |5,true,_,h1,h2=>have:=h1 rfl;exact(rdin1_5t0 n N r).at (rdMem (a:=1) (n:=16) (by omega) (by omega) (by rfl))
 |6,false,_,h1,h2=>exact(rdin1_6f0 n N r).at (rdMem (a:=1) (n:=16) (by omega) (by omega) (by rfl))
 |6,true,_,h1,h2=>have:=h1 rfl;exact(rdin1_6t0 n N r).at (rdMem (a:=1) (n:=16) (by omega) (by omega) (by rfl))
 |7,false,_,h1,h2=>exact(rdin1_7f0 n N r).at (rdMem (a:=1) (n:=16) (by omega) (by omega) (by rfl))
 |7,true,_,h1,h2=>have:=h1 rfl;exact(rdin1_7t0 n N r).at (rdMem (a:=1) (n:=16) (by omega) (by omega) (by rfl))
 |8,false,_,h1,h2=>exact(rdin1_8f0 n N r).at (rdMem (a:=1) (n:=16) (by omega) (by omega) (by rfl))
 |8,true,_,h1,h2=>have:=h1 rfl;exact(rdin1_8t0 n N r).at (rdMem (a:=1) (n:=16) (by omega) (by omega) (by rfl))
 |9,false,_,h1,h2=>exact(rdin1_9f0 n N r).at (rdMem (a:=1) (n:=16) (by omega) (by omega) (by rfl))
 |9,true,_,h1,h2=>have:=h1 rfl;exact(rdin1_9t0 n N r).at (rdMem (a:=1) (n:=16) (by omega) (by omega) (by rfl))
 |10,false,_,h1,h2=>exact(rdin1_10f0 n N r).at (rdMem (a:=1) (n:=16) (by omega) (by omega) (by rfl))
 |10,true,_,h1,h2=>have:=h1 rfl;exact(rdin1_10t0 n N r).at (rdMem (a:=1) (n:=16) (by omega) (by omega) (by rfl))
 |11,false,_,h1,h2=>exact(rdin1_11f0 n N r).at (rdMem (a:=1) (n:=16) (by omega) (by omega) (by rfl))
 |11,true,_,h1,h2=>have:=h1 rfl;exact(rdin1_11t0 n N r).at (rdMem (a:=1) (n:=16) (by omega) (by omega) (by rfl))
 |i+12,_,h,_,_=>omega
theorem rdAsQ0{i ph:Nat}{b:Bool}(hi:i≤11)(hp:ph≤15)(hb1:b=true→1≤ph)(hb0:b=false→i=0→ph=0):RdAs 0 i ph b 1 0 0 0:=by
 match i,b,hi,hb1,hb0 with
 |0,false,_,h1,h2=>have:=h2 rfl rfl;exact rdas0_0f0.at (rdMem (a:=0) (n:=0) (by omega) (by omega) (by rfl))
 |0,true,_,h1,h2=>
  have:=h1 rfl
  have hm:ph∈[1,2,3,4,5,6]++([7,8,9,10,11,12]++([14,15]++([13]))):=rdMem (a:=1) (n:=15) (by omega) (by omega) (by rfl)
  simp only[List.mem_append]at hm
  rcases hm with h|h|h|h
  ·exact rdas0_0t0.at h
  ·exact rdas0_0t1.at h
  ·exact rdas0_0t2.at h
  ·exact rdas0_0t3.at h
 |1,false,_,h1,h2=>
  have hm:ph∈[1,2,3,4,5,6]++([7,8,9,10,11,12]++([14,15]++([0]++([13])))):=rdMem (a:=0) (n:=15) (by omega) (by omega) (by rfl)
  simp only[List.mem_append]at hm
  rcases hm with h|h|h|h|h
  ·exact rdas0_1f0.at h
  ·exact rdas0_1f1.at h
  ·exact rdas0_1f2.at h
  ·exact rdas0_1f3.at h
  ·exact rdas0_1f4.at h
 |1,true,_,h1,h2=>
  have:=h1 rfl
  have hm:ph∈[2,3,4,5,6,7]++([8,9,10,11,12,14]++([15]++([1]++([13])))):=rdMem (a:=1) (n:=15) (by omega) (by omega) (by rfl)
  simp only[List.mem_append]at hm
  rcases hm with h|h|h|h|h
  ·exact rdas0_1t0.at h
  ·exact rdas0_1t1.at h
  ·exact rdas0_1t2.at h
  ·exact rdas0_1t3.at h
  ·exact rdas0_1t4.at h
 |2,false,_,h1,h2=>
  have hm:ph∈[1,2,3,4,5,6]++([7,8,9,10,11,12]++([14,15]++([0]++([13])))):=rdMem (a:=0) (n:=15) (by omega) (by omega) (by rfl)
  simp only[List.mem_append]at hm
  rcases hm with h|h|h|h|h
  ·exact rdas0_2f0.at h
  ·exact rdas0_2f1.at h
  ·exact rdas0_2f2.at h
  ·exact rdas0_2f3.at h
  ·exact rdas0_2f4.at h
 |2,true,_,h1,h2=>
  have:=h1 rfl
  have hm:ph∈[2,3,4,5,6,7]++([8,9,10,11,12,14]++([15]++([1]++([13])))):=rdMem (a:=1) (n:=15) (by omega) (by omega) (by rfl)
  simp only[List.mem_append]at hm
  rcases hm with h|h|h|h|h
  ·exact rdas0_2t0.at h
  ·exact rdas0_2t1.at h
  ·exact rdas0_2t2.at h
  ·exact rdas0_2t3.at h
  ·exact rdas0_2t4.at h
 |3,false,_,h1,h2=>
  have hm:ph∈[1,2,3,4,5,6]++([7,8,9,10,11,12]++([14,15]++([0]++([13])))):=rdMem (a:=0) (n:=15) (by omega) (by omega) (by rfl)
  simp only[List.mem_append]at hm
  rcases hm with h|h|h|h|h
  ·exact rdas0_3f0.at h
  ·exact rdas0_3f1.at h
  ·exact rdas0_3f2.at h
  ·exact rdas0_3f3.at h
  ·exact rdas0_3f4.at h
 |3,true,_,h1,h2=>
  have:=h1 rfl
  have hm:ph∈[2,3,4,5,6,7]++([8,9,10,11,12,14]++([15]++([1]++([13])))):=rdMem (a:=1) (n:=15) (by omega) (by omega) (by rfl)
  simp only[List.mem_append]at hm
  rcases hm with h|h|h|h|h
  ·exact rdas0_3t0.at h
  ·exact rdas0_3t1.at h
  ·exact rdas0_3t2.at h
  ·exact rdas0_3t3.at h
  ·exact rdas0_3t4.at h
 |4,false,_,h1,h2=>
  have hm:ph∈[1,2,3,4,5,6]++([7,8,9,10,11,12]++([14,15]++([0]++([13])))):=rdMem (a:=0) (n:=15) (by omega) (by omega) (by rfl)
  simp only[List.mem_append]at hm
  rcases hm with h|h|h|h|h
  ·exact rdas0_4f0.at h
  ·exact rdas0_4f1.at h
  ·exact rdas0_4f2.at h
  ·exact rdas0_4f3.at h
  ·exact rdas0_4f4.at h
 |4,true,_,h1,h2=>
  have:=h1 rfl
  have hm:ph∈[2,3,4,5,6,7]++([8,9,10,11,12,14]++([15]++([1]++([13])))):=rdMem (a:=1) (n:=15) (by omega) (by omega) (by rfl)
  simp only[List.mem_append]at hm
  rcases hm with h|h|h|h|h
  ·exact rdas0_4t0.at h
  ·exact rdas0_4t1.at h
  ·exact rdas0_4t2.at h
  ·exact rdas0_4t3.at h
  ·exact rdas0_4t4.at h
 |5,false,_,h1,h2=>
  have hm:ph∈[1,2,3,4,5,6]++([7,8,9,10,11,12]++([14,15]++([0]++([13])))):=rdMem (a:=0) (n:=15) (by omega) (by omega) (by rfl)
  simp only[List.mem_append]at hm
  rcases hm with h|h|h|h|h
  ·exact rdas0_5f0.at h
  ·exact rdas0_5f1.at h
  ·exact rdas0_5f2.at h
  ·exact rdas0_5f3.at h
  ·exact rdas0_5f4.at h
 |5,true,_,h1,h2=>
  have:=h1 rfl
  have hm:ph∈[2,3,4,5,6,7]++([8,9,10,11,12,14]++([15]++([1]++([13])))):=rdMem (a:=1) (n:=15) (by omega) (by omega) (by rfl)
  simp only[List.mem_append]at hm
  rcases hm with h|h|h|h|h
  ·exact rdas0_5t0.at h
  ·exact rdas0_5t1.at h
  ·exact rdas0_5t2.at h
  ·exact rdas0_5t3.at h
  ·exact rdas0_5t4.at h
 |6,false,_,h1,h2=>
  have hm:ph∈[1,2,3,4,5,6]++([7,8,9,10,11,12]++([14,15]++([0]++([13])))):=rdMem (a:=0) (n:=15) (by omega) (by omega) (by rfl)
  simp only[List.mem_append]at hm
  rcases hm with h|h|h|h|h
  ·exact rdas0_6f0.at h
  ·exact rdas0_6f1.at h
  ·exact rdas0_6f2.at h
  ·exact rdas0_6f3.at h
  ·exact rdas0_6f4.at h
 |6,true,_,h1,h2=>
  have:=h1 rfl
  have hm:ph∈[2,3,4,5,6,7]++([8,9,10,11,12,14]++([15]++([1]++([13])))):=rdMem (a:=1) (n:=15) (by omega) (by omega) (by rfl)
  simp only[List.mem_append]at hm
  rcases hm with h|h|h|h|h
  ·exact rdas0_6t0.at h
  ·exact rdas0_6t1.at h
  ·exact rdas0_6t2.at h
  ·exact rdas0_6t3.at h
  ·exact rdas0_6t4.at h
 |7,false,_,h1,h2=>
  have hm:ph∈[1,2,3,4,5,6]++([7,8,9,10,11,12]++([14,15]++([0]++([13])))):=rdMem (a:=0) (n:=15) (by omega) (by omega) (by rfl)
  simp only[List.mem_append]at hm
  rcases hm with h|h|h|h|h
  ·exact rdas0_7f0.at h
  ·exact rdas0_7f1.at h
  ·exact rdas0_7f2.at h
  ·exact rdas0_7f3.at h
  ·exact rdas0_7f4.at h
 |7,true,_,h1,h2=>
  have:=h1 rfl
  have hm:ph∈[2,3,4,5,6,7]++([8,9,10,11,12,14]++([15]++([1]++([13])))):=rdMem (a:=1) (n:=15) (by omega) (by omega) (by rfl)
  simp only[List.mem_append]at hm
  rcases hm with h|h|h|h|h
  ·exact rdas0_7t0.at h
  ·exact rdas0_7t1.at h
  ·exact rdas0_7t2.at h
  ·exact rdas0_7t3.at h
  ·exact rdas0_7t4.at h
 |8,false,_,h1,h2=>
  have hm:ph∈[1,2,3,4,5,6]++([7,8,9,10,11,12]++([14,15]++([0]++([13])))):=rdMem (a:=0) (n:=15) (by omega) (by omega) (by rfl)
  simp only[List.mem_append]at hm
  rcases hm with h|h|h|h|h
  ·exact rdas0_8f0.at h
  ·exact rdas0_8f1.at h
  ·exact rdas0_8f2.at h
  ·exact rdas0_8f3.at h
  ·exact rdas0_8f4.at h
 |8,true,_,h1,h2=>
  have:=h1 rfl
  have hm:ph∈[2,3,4,5,6,7]++([8,9,10,11,12,14]++([15]++([1]++([13])))):=rdMem (a:=1) (n:=15) (by omega) (by omega) (by rfl)
  simp only[List.mem_append]at hm
  rcases hm with h|h|h|h|h
  ·exact rdas0_8t0.at h
  ·exact rdas0_8t1.at h
  ·exact rdas0_8t2.at h
  ·exact rdas0_8t3.at h
  ·exact rdas0_8t4.at h
 |9,false,_,h1,h2=>
  have hm:ph∈[1,2,3,4,5,6]++([7,8,9,10,11,12]++([14,15]++([0]++([13])))):=rdMem (a:=0) (n:=15) (by omega) (by omega) (by rfl)
  simp only[List.mem_append]at hm
  rcases hm with h|h|h|h|h
  ·exact rdas0_9f0.at h
  ·exact rdas0_9f1.at h
  ·exact rdas0_9f2.at h
  ·exact rdas0_9f3.at h
  ·exact rdas0_9f4.at h
 |9,true,_,h1,h2=>
  have:=h1 rfl
  have hm:ph∈[2,3,4,5,6,7]++([8,9,10,11,12,14]++([15]++([1]++([13])))):=rdMem (a:=1) (n:=15) (by omega) (by omega) (by rfl)
  simp only[List.mem_append]at hm
  rcases hm with h|h|h|h|h
  ·exact rdas0_9t0.at h
  ·exact rdas0_9t1.at h
  ·exact rdas0_9t2.at h
  ·exact rdas0_9t3.at h
  ·exact rdas0_9t4.at h
 |10,false,_,h1,h2=>
  have hm:ph∈[1,2,3,4,5,6]++([7,8,9,10,11,12]++([14,15]++([0]++([13])))):=rdMem (a:=0) (n:=15) (by omega) (by omega) (by rfl)
  simp only[List.mem_append]at hm
  rcases hm with h|h|h|h|h
  ·exact rdas0_10f0.at h
  ·exact rdas0_10f1.at h
  ·exact rdas0_10f2.at h
  ·exact rdas0_10f3.at h
  ·exact rdas0_10f4.at h
 |10,true,_,h1,h2=>
  have:=h1 rfl
  have hm:ph∈[2,3,4,5,6,7]++([8,9,10,11,12,14]++([15]++([1]++([13])))):=rdMem (a:=1) (n:=15) (by omega) (by omega) (by rfl)
  simp only[List.mem_append]at hm
  rcases hm with h|h|h|h|h
  ·exact rdas0_10t0.at h
  ·exact rdas0_10t1.at h
  ·exact rdas0_10t2.at h
  ·exact rdas0_10t3.at h
  ·exact rdas0_10t4.at h
 |11,false,_,h1,h2=>
  have hm:ph∈[1,2,3,4,5,6]++([7,8,9,10,11,12]++([14,15]++([0]++([13])))):=rdMem (a:=0) (n:=15) (by omega) (by omega) (by rfl)
  simp only[List.mem_append]at hm
  rcases hm with h|h|h|h|h
  ·exact rdas0_11f0.at h
  ·exact rdas0_11f1.at h
  ·exact rdas0_11f2.at h
  ·exact rdas0_11f3.at h
  ·exact rdas0_11f4.at h
 |11,true,_,h1,h2=>
  have:=h1 rfl
  have hm:ph∈[2,3,4,5,6,7]++([8,9,10,11,12,14]++([15]++([1]++([13])))):=rdMem (a:=1) (n:=15) (by omega) (by omega) (by rfl)
  simp only[List.mem_append]at hm
  rcases hm with h|h|h|h|h
  ·exact rdas0_11t0.at h
  ·exact rdas0_11t1.at h
  ·exact rdas0_11t2.at h
  ·exact rdas0_11t3.at h
  ·exact rdas0_11t4.at h
 |i+12,_,h,_,_=>omega
theorem rdAsQ1(n N:Int)(r:Nat){i ph:Nat}{b:Bool}(hi:i≤11)(hp:ph≤16)(h1:1≤ph)(hb1:b=true→1≤ph)(hb0:b=false→i=0→ph=0):RdAs 1 i ph b 0 n N r:=by
 match i,b,hi,hb1,hb0 with
 |0,false,_,h1,h2=>exact absurd (h2 rfl rfl) (by omega)
 |0,true,_,h1,h2=>
  have:=h1 rfl
  have hm:ph∈[1,2,3,4,5,6]++([7,8,9,10,11,12]++([13,14,15,16])):=rdMem (a:=1) (n:=16) (by omega) (by omega) (by rfl)
  simp only[List.mem_append]at hm
  rcases hm with h|h|h
  ·exact(rdas1_0t0 n N r).at h
  ·exact(rdas1_0t1 n N r).at h
  ·exact(rdas1_0t2 n N r).at h
 |1,false,_,h1,h2=>
  have hm:ph∈[1,2,3,4,5,6]++([7,8,9,10,11,12]++([13,14,15,16])):=rdMem (a:=1) (n:=16) (by omega) (by omega) (by rfl)
  simp only[List.mem_append]at hm
  rcases hm with h|h|h
  ·exact(rdas1_1f0 n N r).at h
  ·exact(rdas1_1f1 n N r).at h
  ·exact(rdas1_1f2 n N r).at h
 |1,true,_,h1,h2=>
  have:=h1 rfl
  have hm:ph∈[1,2,3,4,5,6]++([7,8,9,10,11,12]++([13,14,15,16])):=rdMem (a:=1) (n:=16) (by omega) (by omega) (by rfl)
  simp only[List.mem_append]at hm
  rcases hm with h|h|h
  ·exact(rdas1_1t0 n N r).at h
  ·exact(rdas1_1t1 n N r).at h
  ·exact(rdas1_1t2 n N r).at h
 |2,false,_,h1,h2=>
  have hm:ph∈[1,2,3,4,5,6]++([7,8,9,10,11,12]++([13,14,15,16])):=rdMem (a:=1) (n:=16) (by omega) (by omega) (by rfl)
  simp only[List.mem_append]at hm
  rcases hm with h|h|h
  ·exact(rdas1_2f0 n N r).at h
  ·exact(rdas1_2f1 n N r).at h
  ·exact(rdas1_2f2 n N r).at h
 |2,true,_,h1,h2=>
  have:=h1 rfl
  have hm:ph∈[1,2,3,4,5,6]++([7,8,9,10,11,12]++([13,14,15,16])):=rdMem (a:=1) (n:=16) (by omega) (by omega) (by rfl)
  simp only[List.mem_append]at hm
  rcases hm with h|h|h
  ·exact(rdas1_2t0 n N r).at h
  ·exact(rdas1_2t1 n N r).at h
  ·exact(rdas1_2t2 n N r).at h
 |3,false,_,h1,h2=>
  have hm:ph∈[1,2,3,4,5,6]++([7,8,9,10,11,12]++([13,14,15,16])):=rdMem (a:=1) (n:=16) (by omega) (by omega) (by rfl)
  simp only[List.mem_append]at hm
  rcases hm with h|h|h
  ·exact(rdas1_3f0 n N r).at h
  ·exact(rdas1_3f1 n N r).at h
  ·exact(rdas1_3f2 n N r).at h
 |3,true,_,h1,h2=>
  have:=h1 rfl
  have hm:ph∈[1,2,3,4,5,6]++([7,8,9,10,11,12]++([13,14,15,16])):=rdMem (a:=1) (n:=16) (by omega) (by omega) (by rfl)
  simp only[List.mem_append]at hm
  rcases hm with h|h|h
  ·exact(rdas1_3t0 n N r).at h
  ·exact(rdas1_3t1 n N r).at h
  ·exact(rdas1_3t2 n N r).at h
 |4,false,_,h1,h2=>
  have hm:ph∈[1,2,3,4,5,6]++([7,8,9,10,11,12]++([13,14,15,16])):=rdMem (a:=1) (n:=16) (by omega) (by omega) (by rfl)
  simp only[List.mem_append]at hm
  rcases hm with h|h|h
  ·exact(rdas1_4f0 n N r).at h
  ·exact(rdas1_4f1 n N r).at h
  ·exact(rdas1_4f2 n N r).at h
 |4,true,_,h1,h2=>
  have:=h1 rfl
  have hm:ph∈[1,2,3,4,5,6]++([7,8,9,10,11,12]++([13,14,15,16])):=rdMem (a:=1) (n:=16) (by omega) (by omega) (by rfl)
  simp only[List.mem_append]at hm
  rcases hm with h|h|h
  ·exact(rdas1_4t0 n N r).at h
  ·exact(rdas1_4t1 n N r).at h
  ·exact(rdas1_4t2 n N r).at h
 |5,false,_,h1,h2=>
  have hm:ph∈[1,2,3,4,5,6]++([7,8,9,10,11,12]++([13,14,15,16])):=rdMem (a:=1) (n:=16) (by omega) (by omega) (by rfl)
  simp only[List.mem_append]at hm
  rcases hm with h|h|h
  ·exact(rdas1_5f0 n N r).at h
  ·exact(rdas1_5f1 n N r).at h
  ·exact(rdas1_5f2 n N r).at h
 |5,true,_,h1,h2=>
  have:=h1 rfl
  have hm:ph∈[1,2,3,4,5,6]++([7,8,9,10,11,12]++([13,14,15,16])):=rdMem (a:=1) (n:=16) (by omega) (by omega) (by rfl)
  simp only[List.mem_append]at hm
  rcases hm with h|h|h
  ·exact(rdas1_5t0 n N r).at h
  ·exact(rdas1_5t1 n N r).at h
  ·exact(rdas1_5t2 n N r).at h
 |6,false,_,h1,h2=>
  have hm:ph∈[1,2,3,4,5,6]++([7,8,9,10,11,12]++([13,14,15,16])):=rdMem (a:=1) (n:=16) (by omega) (by omega) (by rfl)
  simp only[List.mem_append]at hm
  rcases hm with h|h|h
  ·exact(rdas1_6f0 n N r).at h
  ·exact(rdas1_6f1 n N r).at h
  ·exact(rdas1_6f2 n N r).at h
 |6,true,_,h1,h2=>
  have:=h1 rfl
  have hm:ph∈[1,2,3,4,5,6]++([7,8,9,10,11,12]++([13,14,15,16])):=rdMem (a:=1) (n:=16) (by omega) (by omega) (by rfl)
  simp only[List.mem_append]at hm
  rcases hm with h|h|h
  ·exact(rdas1_6t0 n N r).at h
  ·exact(rdas1_6t1 n N r).at h
  ·exact(rdas1_6t2 n N r).at h
 |7,false,_,h1,h2=>
  have hm:ph∈[1,2,3,4,5,6]++([7,8,9,10,11,12]++([13,14,15,16])):=rdMem (a:=1) (n:=16) (by omega) (by omega) (by rfl)
  simp only[List.mem_append]at hm
  rcases hm with h|h|h
  ·exact(rdas1_7f0 n N r).at h
  ·exact(rdas1_7f1 n N r).at h
  ·exact(rdas1_7f2 n N r).at h
 |7,true,_,h1,h2=>
  have:=h1 rfl
  have hm:ph∈[1,2,3,4,5,6]++([7,8,9,10,11,12]++([13,14,15,16])):=rdMem (a:=1) (n:=16) (by omega) (by omega) (by rfl)
  simp only[List.mem_append]at hm
  rcases hm with h|h|h
  ·exact(rdas1_7t0 n N r).at h
  ·exact(rdas1_7t1 n N r).at h
  ·exact(rdas1_7t2 n N r).at h
 |8,false,_,h1,h2=>
  have hm:ph∈[1,2,3,4,5,6]++([7,8,9,10,11,12]++([13,14,15,16])):=rdMem (a:=1) (n:=16) (by omega) (by omega) (by rfl)
  simp only[List.mem_append]at hm
  rcases hm with h|h|h
  ·exact(rdas1_8f0 n N r).at h
  ·exact(rdas1_8f1 n N r).at h
  ·exact(rdas1_8f2 n N r).at h
 |8,true,_,h1,h2=>
  have:=h1 rfl
  have hm:ph∈[1,2,3,4,5,6]++([7,8,9,10,11,12]++([13,14,15,16])):=rdMem (a:=1) (n:=16) (by omega) (by omega) (by rfl)
  simp only[List.mem_append]at hm
  rcases hm with h|h|h
  ·exact(rdas1_8t0 n N r).at h
  ·exact(rdas1_8t1 n N r).at h
  ·exact(rdas1_8t2 n N r).at h
 |9,false,_,h1,h2=>
  have hm:ph∈[1,2,3,4,5,6]++([7,8,9,10,11,12]++([13,14,15,16])):=rdMem (a:=1) (n:=16) (by omega) (by omega) (by rfl)
  simp only[List.mem_append]at hm
  rcases hm with h|h|h
  ·exact(rdas1_9f0 n N r).at h
  ·exact(rdas1_9f1 n N r).at h
  ·exact(rdas1_9f2 n N r).at h
 |9,true,_,h1,h2=>
  have:=h1 rfl
  have hm:ph∈[1,2,3,4,5,6]++([7,8,9,10,11,12]++([13,14,15,16])):=rdMem (a:=1) (n:=16) (by omega) (by omega) (by rfl)
  simp only[List.mem_append]at hm
  rcases hm with h|h|h
  ·exact(rdas1_9t0 n N r).at h
  ·exact(rdas1_9t1 n N r).at h
  ·exact(rdas1_9t2 n N r).at h
 |10,false,_,h1,h2=>
  have hm:ph∈[1,2,3,4,5,6]++([7,8,9,10,11,12]++([13,14,15,16])):=rdMem (a:=1) (n:=16) (by omega) (by omega) (by rfl)
  simp only[List.mem_append]at hm
  rcases hm with h|h|h
  ·exact(rdas1_10f0 n N r).at h
  ·exact(rdas1_10f1 n N r).at h
  ·exact(rdas1_10f2 n N r).at h
 |10,true,_,h1,h2=>
  have:=h1 rfl
  have hm:ph∈[1,2,3,4,5,6]++([7,8,9,10,11,12]++([13,14,15,16])):=rdMem (a:=1) (n:=16) (by omega) (by omega) (by rfl)
  simp only[List.mem_append]at hm
  rcases hm with h|h|h
  ·exact(rdas1_10t0 n N r).at h
  ·exact(rdas1_10t1 n N r).at h
  ·exact(rdas1_10t2 n N r).at h
 |11,false,_,h1,h2=>
  have hm:ph∈[1,2,3,4,5,6]++([7,8,9,10,11,12]++([13,14,15,16])):=rdMem (a:=1) (n:=16) (by omega) (by omega) (by rfl)
  simp only[List.mem_append]at hm
  rcases hm with h|h|h
  ·exact(rdas1_11f0 n N r).at h
  ·exact(rdas1_11f1 n N r).at h
  ·exact(rdas1_11f2 n N r).at h
 |11,true,_,h1,h2=>
  have:=h1 rfl
  have hm:ph∈[1,2,3,4,5,6]++([7,8,9,10,11,12]++([13,14,15,16])):=rdMem (a:=1) (n:=16) (by omega) (by omega) (by rfl)
  simp only[List.mem_append]at hm
  rcases hm with h|h|h
  ·exact(rdas1_11t0 n N r).at h
  ·exact(rdas1_11t1 n N r).at h
  ·exact(rdas1_11t2 n N r).at h
 |i+12,_,h,_,_=>omega
theorem rdXiQ{i ph:Nat}{b:Bool}(hi:i≤11)(hp:ph≤16)(hb1:b=true→1≤ph)(hb0:b=false→i=0→ph=0):RdXi i ph b:=by
 match i,b,hi,hb1,hb0 with
 |0,false,_,h1,h2=>have:=h2 rfl rfl;exact rdxi0f.at (rdMem (a:=0) (n:=0) (by omega) (by omega) (by rfl))
 |0,true,_,h1,h2=>have:=h1 rfl;exact rdxi0t.at (rdMem (a:=1) (n:=16) (by omega) (by omega) (by rfl))
 |1,false,_,h1,h2=>exact rdxi1f.at (rdMem (a:=0) (n:=16) (by omega) (by omega) (by rfl))
 |1,true,_,h1,h2=>have:=h1 rfl;exact rdxi1t.at (rdMem (a:=1) (n:=16) (by omega) (by omega) (by rfl))
 |2,false,_,h1,h2=>exact rdxi2f.at (rdMem (a:=0) (n:=16) (by omega) (by omega) (by rfl))
 |2,true,_,h1,h2=>have:=h1 rfl;exact rdxi2t.at (rdMem (a:=1) (n:=16) (by omega) (by omega) (by rfl))
 |3,false,_,h1,h2=>exact rdxi3f.at (rdMem (a:=0) (n:=16) (by omega) (by omega) (by rfl))
 |3,true,_,h1,h2=>have:=h1 rfl;exact rdxi3t.at (rdMem (a:=1) (n:=16) (by omega) (by omega) (by rfl))
 |4,false,_,h1,h2=>exact rdxi4f.at (rdMem (a:=0) (n:=16) (by omega) (by omega) (by rfl))
 |4,true,_,h1,h2=>have:=h1 rfl;exact rdxi4t.at (rdMem (a:=1) (n:=16) (by omega) (by omega) (by rfl))
 |5,false,_,h1,h2=>exact rdxi5f.at (rdMem (a:=0) (n:=16) (by omega) (by omega) (by rfl))
 |5,true,_,h1,h2=>have:=h1 rfl;exact rdxi5t.at (rdMem (a:=1) (n:=16) (by omega) (by omega) (by rfl))
 |6,false,_,h1,h2=>exact rdxi6f.at (rdMem (a:=0) (n:=16) (by omega) (by omega) (by rfl))
 |6,true,_,h1,h2=>have:=h1 rfl;exact rdxi6t.at (rdMem (a:=1) (n:=16) (by omega) (by omega) (by rfl))
 |7,false,_,h1,h2=>exact rdxi7f.at (rdMem (a:=0) (n:=16) (by omega) (by omega) (by rfl))
 |7,true,_,h1,h2=>have:=h1 rfl;exact rdxi7t.at (rdMem (a:=1) (n:=16) (by omega) (by omega) (by rfl))
 |8,false,_,h1,h2=>exact rdxi8f.at (rdMem (a:=0) (n:=16) (by omega) (by omega) (by rfl))
 |8,true,_,h1,h2=>have:=h1 rfl;exact rdxi8t.at (rdMem (a:=1) (n:=16) (by omega) (by omega) (by rfl))
 |9,false,_,h1,h2=>exact rdxi9f.at (rdMem (a:=0) (n:=16) (by omega) (by omega) (by rfl))
 |9,true,_,h1,h2=>have:=h1 rfl;exact rdxi9t.at (rdMem (a:=1) (n:=16) (by omega) (by omega) (by rfl))
 |10,false,_,h1,h2=>exact rdxi10f.at (rdMem (a:=0) (n:=16) (by omega) (by omega) (by rfl))
 |10,true,_,h1,h2=>have:=h1 rfl;exact rdxi10t.at (rdMem (a:=1) (n:=16) (by omega) (by omega) (by rfl))
 |11,false,_,h1,h2=>exact rdxi11f.at (rdMem (a:=0) (n:=16) (by omega) (by omega) (by rfl))
 |11,true,_,h1,h2=>have:=h1 rfl;exact rdxi11t.at (rdMem (a:=1) (n:=16) (by omega) (by omega) (by rfl))
 |i+12,_,h,_,_=>omega
theorem rdHdQ{i sh:Nat}(hi:i≤11)(hs:sh≤5)(h0:i=0→sh=0):RdHd i sh:=by
 match i,hi,h0 with
 |0,_,h0=>have:=h0 rfl;exact rdhd0.at (rdMem (a:=0) (n:=0) (by omega) (by omega) (by rfl))
 |1,_,h0=>exact rdhd1.at (rdMem (a:=0) (n:=5) (by omega) (by omega) (by rfl))
 |2,_,h0=>exact rdhd2.at (rdMem (a:=0) (n:=5) (by omega) (by omega) (by rfl))
 |3,_,h0=>exact rdhd3.at (rdMem (a:=0) (n:=5) (by omega) (by omega) (by rfl))
 |4,_,h0=>exact rdhd4.at (rdMem (a:=0) (n:=5) (by omega) (by omega) (by rfl))
 |5,_,h0=>exact rdhd5.at (rdMem (a:=0) (n:=5) (by omega) (by omega) (by rfl))
 |6,_,h0=>exact rdhd6.at (rdMem (a:=0) (n:=5) (by omega) (by omega) (by rfl))
 |7,_,h0=>exact rdhd7.at (rdMem (a:=0) (n:=5) (by omega) (by omega) (by rfl))
 |8,_,h0=>exact rdhd8.at (rdMem (a:=0) (n:=5) (by omega) (by omega) (by rfl))
 |9,_,h0=>exact rdhd9.at (rdMem (a:=0) (n:=5) (by omega) (by omega) (by rfl))
 |10,_,h0=>exact rdhd10.at (rdMem (a:=0) (n:=5) (by omega) (by omega) (by rfl))
 |11,_,h0=>exact rdhd11.at (rdMem (a:=0) (n:=5) (by omega) (by omega) (by rfl))
 |i+12,h,_=>omega
theorem rdExQ{i sh:Nat}(hi:i≤12)(hs:sh≤5)(h0:i=0→sh=0):RdEx i sh:=by
 match i,hi,h0 with
 |0,_,h0=>have:=h0 rfl;exact rdex0.at (rdMem (a:=0) (n:=0) (by omega) (by omega) (by rfl))
 |1,_,h0=>exact rdex1.at (rdMem (a:=0) (n:=5) (by omega) (by omega) (by rfl))
 |2,_,h0=>exact rdex2.at (rdMem (a:=0) (n:=5) (by omega) (by omega) (by rfl))
 |3,_,h0=>exact rdex3.at (rdMem (a:=0) (n:=5) (by omega) (by omega) (by rfl))
 |4,_,h0=>exact rdex4.at (rdMem (a:=0) (n:=5) (by omega) (by omega) (by rfl))
 |5,_,h0=>exact rdex5.at (rdMem (a:=0) (n:=5) (by omega) (by omega) (by rfl))
 |6,_,h0=>exact rdex6.at (rdMem (a:=0) (n:=5) (by omega) (by omega) (by rfl))
 |7,_,h0=>exact rdex7.at (rdMem (a:=0) (n:=5) (by omega) (by omega) (by rfl))
 |8,_,h0=>exact rdex8.at (rdMem (a:=0) (n:=5) (by omega) (by omega) (by rfl))
 |9,_,h0=>exact rdex9.at (rdMem (a:=0) (n:=5) (by omega) (by omega) (by rfl))
 |10,_,h0=>exact rdex10.at (rdMem (a:=0) (n:=5) (by omega) (by omega) (by rfl))
 |11,_,h0=>exact rdex11.at (rdMem (a:=0) (n:=5) (by omega) (by omega) (by rfl))
 |12,_,h0=>exact rdex12.at (rdMem (a:=0) (n:=5) (by omega) (by omega) (by rfl))
 |i+13,h,_=>omega
theorem rdZrQ{i sh:Nat}(hi:i≤11)(hs:sh≤5)(h0:i=0→sh=0):RdZr i sh:=by
 match i,hi,h0 with
 |0,_,h0=>have:=h0 rfl;exact rdzr0.at (rdMem (a:=0) (n:=0) (by omega) (by omega) (by rfl))
 |1,_,h0=>exact rdzr1.at (rdMem (a:=0) (n:=5) (by omega) (by omega) (by rfl))
 |2,_,h0=>exact rdzr2.at (rdMem (a:=0) (n:=5) (by omega) (by omega) (by rfl))
 |3,_,h0=>exact rdzr3.at (rdMem (a:=0) (n:=5) (by omega) (by omega) (by rfl))
 |4,_,h0=>exact rdzr4.at (rdMem (a:=0) (n:=5) (by omega) (by omega) (by rfl))
 |5,_,h0=>exact rdzr5.at (rdMem (a:=0) (n:=5) (by omega) (by omega) (by rfl))
 |6,_,h0=>exact rdzr6.at (rdMem (a:=0) (n:=5) (by omega) (by omega) (by rfl))
 |7,_,h0=>exact rdzr7.at (rdMem (a:=0) (n:=5) (by omega) (by omega) (by rfl))
 |8,_,h0=>exact rdzr8.at (rdMem (a:=0) (n:=5) (by omega) (by omega) (by rfl))
 |9,_,h0=>exact rdzr9.at (rdMem (a:=0) (n:=5) (by omega) (by omega) (by rfl))
 |10,_,h0=>exact rdzr10.at (rdMem (a:=0) (n:=5) (by omega) (by omega) (by rfl))
 |11,_,h0=>exact rdzr11.at (rdMem (a:=0) (n:=5) (by omega) (by omega) (by rfl))
 |i+12,h,_=>omega
theorem rdTlQ{i sh:Nat}(hi:i≤11)(hs:sh≤5):RdTl i sh:=by
 match i,hi with
 |0,_=>exact rdtl0.at (rdMem (a:=0) (n:=5) (by omega) (by omega) (by rfl))
 |1,_=>exact rdtl1.at (rdMem (a:=0) (n:=5) (by omega) (by omega) (by rfl))
 |2,_=>exact rdtl2.at (rdMem (a:=0) (n:=5) (by omega) (by omega) (by rfl))
 |3,_=>exact rdtl3.at (rdMem (a:=0) (n:=5) (by omega) (by omega) (by rfl))
 |4,_=>exact rdtl4.at (rdMem (a:=0) (n:=5) (by omega) (by omega) (by rfl))
 |5,_=>exact rdtl5.at (rdMem (a:=0) (n:=5) (by omega) (by omega) (by rfl))
 |6,_=>exact rdtl6.at (rdMem (a:=0) (n:=5) (by omega) (by omega) (by rfl))
 |7,_=>exact rdtl7.at (rdMem (a:=0) (n:=5) (by omega) (by omega) (by rfl))
 |8,_=>exact rdtl8.at (rdMem (a:=0) (n:=5) (by omega) (by omega) (by rfl))
 |9,_=>exact rdtl9.at (rdMem (a:=0) (n:=5) (by omega) (by omega) (by rfl))
 |10,_=>exact rdtl10.at (rdMem (a:=0) (n:=5) (by omega) (by omega) (by rfl))
 |11,_=>exact rdtl11.at (rdMem (a:=0) (n:=5) (by omega) (by omega) (by rfl))
 |i+12,h=>omega
def rdOdd(i k:Nat):Bool:=match i with
 |6=>decide (k=11)
 |7=>decide (k=13)
 |9=>decide (k=16)
 |10=>decide (k=18)
 |11=>decide (k=19)||decide (k=20)
 |_=>false
theorem rdSeQ{i sh k:Nat}(hi:i≤11)(hs:sh≤5)(hk:16*k≤39*(i+1))(h0:sh=0→k=0)(h5:sh=5→1≤k)(ho:rdOdd i k=false):RdSe i sh k:=by
 match i,sh,hi,hs,hk,h0,h5,ho with
 |0,0,_,_,hk,h0,h5,_=>have:=h0 rfl;exact rdse0_0_0.at (rdMem (a:=0) (n:=0) (by omega) (by omega) (by rfl))
 |0,1,_,_,hk,h0,h5,_=>exact rdse0_1_0.at (rdMem (a:=0) (n:=2) (by omega) (by omega) (by rfl))
 |0,2,_,_,hk,h0,h5,_=>exact rdse0_2_0.at (rdMem (a:=0) (n:=2) (by omega) (by omega) (by rfl))
 |0,3,_,_,hk,h0,h5,_=>exact rdse0_3_0.at (rdMem (a:=0) (n:=2) (by omega) (by omega) (by rfl))
 |0,4,_,_,hk,h0,h5,_=>exact rdse0_4_0.at (rdMem (a:=0) (n:=2) (by omega) (by omega) (by rfl))
 |0,5,_,_,hk,h0,h5,_=>have:=h5 rfl;exact rdse0_5_0.at (rdMem (a:=1) (n:=2) (by omega) (by omega) (by rfl))
 |1,0,_,_,hk,h0,h5,_=>have:=h0 rfl;exact rdse1_0_0.at (rdMem (a:=0) (n:=0) (by omega) (by omega) (by rfl))
 |1,1,_,_,hk,h0,h5,_=>exact rdse1_1_0.at (rdMem (a:=0) (n:=4) (by omega) (by omega) (by rfl))
 |1,2,_,_,hk,h0,h5,_=>exact rdse1_2_0.at (rdMem (a:=0) (n:=4) (by omega) (by omega) (by rfl))
 |1,3,_,_,hk,h0,h5,_=>exact rdse1_3_0.at (rdMem (a:=0) (n:=4) (by omega) (by omega) (by rfl))
 |1,4,_,_,hk,h0,h5,_=>exact rdse1_4_0.at (rdMem (a:=0) (n:=4) (by omega) (by omega) (by rfl))
 |1,5,_,_,hk,h0,h5,_=>have:=h5 rfl;exact rdse1_5_0.at (rdMem (a:=1) (n:=4) (by omega) (by omega) (by rfl))
 |2,0,_,_,hk,h0,h5,_=>have:=h0 rfl;exact rdse2_0_0.at (rdMem (a:=0) (n:=0) (by omega) (by omega) (by rfl))
 |2,1,_,_,hk,h0,h5,_=>
  have hm:k∈[0,1,2,3,4,5]++([6,7]):=rdMem (a:=0) (n:=7) (by omega) (by omega) (by rfl)
  simp only[List.mem_append]at hm
  rcases hm with h|h
  ·exact rdse2_1_0.at h
  ·exact rdse2_1_1.at h
 |2,2,_,_,hk,h0,h5,_=>
  have hm:k∈[0,1,2,3,4,5]++([6,7]):=rdMem (a:=0) (n:=7) (by omega) (by omega) (by rfl)
  simp only[List.mem_append]at hm
  rcases hm with h|h
  ·exact rdse2_2_0.at h
  ·exact rdse2_2_1.at h
 |2,3,_,_,hk,h0,h5,_=>
  have hm:k∈[0,1,2,3,4,5]++([6,7]):=rdMem (a:=0) (n:=7) (by omega) (by omega) (by rfl)
  simp only[List.mem_append]at hm
  rcases hm with h|h
  ·exact rdse2_3_0.at h
  ·exact rdse2_3_1.at h
 |2,4,_,_,hk,h0,h5,_=>
  have hm:k∈[0,1,2,3,4,5]++([6,7]):=rdMem (a:=0) (n:=7) (by omega) (by omega) (by rfl)
  simp only[List.mem_append]at hm
  rcases hm with h|h
  ·exact rdse2_4_0.at h
  ·exact rdse2_4_1.at h
 |2,5,_,_,hk,h0,h5,_=>
  have:=h5 rfl
  have hm:k∈[1,2,3,4,5,6]++([7]):=rdMem (a:=1) (n:=7) (by omega) (by omega) (by rfl)
  simp only[List.mem_append]at hm
  rcases hm with h|h
  ·exact rdse2_5_0.at h
  ·exact rdse2_5_1.at h
 |3,0,_,_,hk,h0,h5,_=>have:=h0 rfl;exact rdse3_0_0.at (rdMem (a:=0) (n:=0) (by omega) (by omega) (by rfl))
 |3,1,_,_,hk,h0,h5,_=>
  have hm:k∈[0,1,2,3,4,5]++([6,7,8,9]):=rdMem (a:=0) (n:=9) (by omega) (by omega) (by rfl)
  simp only[List.mem_append]at hm
  rcases hm with h|h
  ·exact rdse3_1_0.at h
  ·exact rdse3_1_1.at h
 |3,2,_,_,hk,h0,h5,_=>
  have hm:k∈[0,1,2,3,4,5]++([6,7,8,9]):=rdMem (a:=0) (n:=9) (by omega) (by omega) (by rfl)
  simp only[List.mem_append]at hm
  rcases hm with h|h
  ·exact rdse3_2_0.at h
  ·exact rdse3_2_1.at h
 |3,3,_,_,hk,h0,h5,_=>
  have hm:k∈[0,1,2,3,4,5]++([6,7,8,9]):=rdMem (a:=0) (n:=9) (by omega) (by omega) (by rfl)
  simp only[List.mem_append]at hm
  rcases hm with h|h
  ·exact rdse3_3_0.at h
  ·exact rdse3_3_1.at h
 |3,4,_,_,hk,h0,h5,_=>
  have hm:k∈[0,1,2,3,4,5]++([6,7,8,9]):=rdMem (a:=0) (n:=9) (by omega) (by omega) (by rfl)
  simp only[List.mem_append]at hm
  rcases hm with h|h
  ·exact rdse3_4_0.at h
  ·exact rdse3_4_1.at h
 |3,5,_,_,hk,h0,h5,_=>
  have:=h5 rfl
  have hm:k∈[1,2,3,4,5,6]++([7,8,9]):=rdMem (a:=1) (n:=9) (by omega) (by omega) (by rfl)
  simp only[List.mem_append]at hm
  rcases hm with h|h
  ·exact rdse3_5_0.at h
  ·exact rdse3_5_1.at h
 |4,0,_,_,hk,h0,h5,_=>have:=h0 rfl;exact rdse4_0_0.at (rdMem (a:=0) (n:=0) (by omega) (by omega) (by rfl))
 |4,1,_,_,hk,h0,h5,_=>
  have hm:k∈[0,1,2,3,4,5]++([6,7,8,9,10,11]++([12])):=rdMem (a:=0) (n:=12) (by omega) (by omega) (by rfl)
  simp only[List.mem_append]at hm
  rcases hm with h|h|h
  ·exact rdse4_1_0.at h
  ·exact rdse4_1_1.at h
  ·exact rdse4_1_2.at h
 |4,2,_,_,hk,h0,h5,_=>
  have hm:k∈[0,1,2,3,4,5]++([6,7,8,9,10,11]++([12])):=rdMem (a:=0) (n:=12) (by omega) (by omega) (by rfl)
  simp only[List.mem_append]at hm
  rcases hm with h|h|h
  ·exact rdse4_2_0.at h
  ·exact rdse4_2_1.at h
  ·exact rdse4_2_2.at h
 |4,3,_,_,hk,h0,h5,_=>
  have hm:k∈[0,1,2,3,4,5]++([6,7,8,9,10,11]++([12])):=rdMem (a:=0) (n:=12) (by omega) (by omega) (by rfl)
  simp only[List.mem_append]at hm
  rcases hm with h|h|h
  ·exact rdse4_3_0.at h
  ·exact rdse4_3_1.at h
  ·exact rdse4_3_2.at h
 |4,4,_,_,hk,h0,h5,_=>
  have hm:k∈[0,1,2,3,4,5]++([6,7,8,9,10,11]++([12])):=rdMem (a:=0) (n:=12) (by omega) (by omega) (by rfl)
  simp only[List.mem_append]at hm
  rcases hm with h|h|h
  ·exact rdse4_4_0.at h
  ·exact rdse4_4_1.at h
  ·exact rdse4_4_2.at h
 |4,5,_,_,hk,h0,h5,_=>
  have:=h5 rfl
  have hm:k∈[1,2,3,4,5,6]++([7,8,9,10,11,12]):=rdMem (a:=1) (n:=12) (by omega) (by omega) (by rfl)
  simp only[List.mem_append]at hm
  rcases hm with h|h
  ·exact rdse4_5_0.at h
  ·exact rdse4_5_1.at h
 |5,0,_,_,hk,h0,h5,_=>have:=h0 rfl;exact rdse5_0_0.at (rdMem (a:=0) (n:=0) (by omega) (by omega) (by rfl))
 |5,1,_,_,hk,h0,h5,_=>
  have hm:k∈[0,1,2,3,4,5]++([6,7,8,9,10,11]++([12,13,14])):=rdMem (a:=0) (n:=14) (by omega) (by omega) (by rfl)
  simp only[List.mem_append]at hm
  rcases hm with h|h|h
  ·exact rdse5_1_0.at h
  ·exact rdse5_1_1.at h
  ·exact rdse5_1_2.at h
 |5,2,_,_,hk,h0,h5,_=>
  have hm:k∈[0,1,2,3,4,5]++([6,7,8,9,10,11]++([12,13,14])):=rdMem (a:=0) (n:=14) (by omega) (by omega) (by rfl)
  simp only[List.mem_append]at hm
  rcases hm with h|h|h
  ·exact rdse5_2_0.at h
  ·exact rdse5_2_1.at h
  ·exact rdse5_2_2.at h
 |5,3,_,_,hk,h0,h5,_=>
  have hm:k∈[0,1,2,3,4,5]++([6,7,8,9,10,11]++([12,13,14])):=rdMem (a:=0) (n:=14) (by omega) (by omega) (by rfl)
  simp only[List.mem_append]at hm
  rcases hm with h|h|h
  ·exact rdse5_3_0.at h
  ·exact rdse5_3_1.at h
  ·exact rdse5_3_2.at h
 |5,4,_,_,hk,h0,h5,_=>
  have hm:k∈[0,1,2,3,4,5]++([6,7,8,9,10,11]++([12,13,14])):=rdMem (a:=0) (n:=14) (by omega) (by omega) (by rfl)
  simp only[List.mem_append]at hm
  rcases hm with h|h|h
  ·exact rdse5_4_0.at h
  ·exact rdse5_4_1.at h
  ·exact rdse5_4_2.at h
 |5,5,_,_,hk,h0,h5,_=>
  have:=h5 rfl
  have hm:k∈[1,2,3,4,5,6]++([7,8,9,10,11,12]++([13,14])):=rdMem (a:=1) (n:=14) (by omega) (by omega) (by rfl)
  simp only[List.mem_append]at hm
  rcases hm with h|h|h
  ·exact rdse5_5_0.at h
  ·exact rdse5_5_1.at h
  ·exact rdse5_5_2.at h
 |6,0,_,_,hk,h0,h5,_=>have:=h0 rfl;exact rdse6_0_0.at (rdMem (a:=0) (n:=0) (by omega) (by omega) (by rfl))
 |6,1,_,_,hk,h0,h5,ho=>
  have hm:k∈[11]++([0,1,2,3,4,5]++([6,7,8,9,10,12]++([13,14,15,16,17]))):=rdMem (a:=0) (n:=17) (by omega) (by omega) (by rfl)
  simp only[List.mem_append]at hm
  rcases hm with h|h|h|h
  ·simp only[List.mem_cons,List.mem_nil_iff,or_false]at h
   rcases h with h<;>(subst h;exact absurd ho (by decide))
  ·exact rdse6_1_0.at h
  ·exact rdse6_1_1.at h
  ·exact rdse6_1_2.at h
 |6,2,_,_,hk,h0,h5,ho=>
  have hm:k∈[11]++([0,1,2,3,4,5]++([6,7,8,9,10,12]++([13,14,15,16,17]))):=rdMem (a:=0) (n:=17) (by omega) (by omega) (by rfl)
  simp only[List.mem_append]at hm
  rcases hm with h|h|h|h
  ·simp only[List.mem_cons,List.mem_nil_iff,or_false]at h
   rcases h with h<;>(subst h;exact absurd ho (by decide))
  ·exact rdse6_2_0.at h
  ·exact rdse6_2_1.at h
  ·exact rdse6_2_2.at h
 |6,3,_,_,hk,h0,h5,ho=>
  have hm:k∈[11]++([0,1,2,3,4,5]++([6,7,8,9,10,12]++([13,14,15,16,17]))):=rdMem (a:=0) (n:=17) (by omega) (by omega) (by rfl)
  simp only[List.mem_append]at hm
  rcases hm with h|h|h|h
  ·simp only[List.mem_cons,List.mem_nil_iff,or_false]at h
   rcases h with h<;>(subst h;exact absurd ho (by decide))
  ·exact rdse6_3_0.at h
  ·exact rdse6_3_1.at h
  ·exact rdse6_3_2.at h
 |6,4,_,_,hk,h0,h5,ho=>
  have hm:k∈[11]++([0,1,2,3,4,5]++([6,7,8,9,10,12]++([13,14,15,16,17]))):=rdMem (a:=0) (n:=17) (by omega) (by omega) (by rfl)
  simp only[List.mem_append]at hm
  rcases hm with h|h|h|h
  ·simp only[List.mem_cons,List.mem_nil_iff,or_false]at h
   rcases h with h<;>(subst h;exact absurd ho (by decide))
  ·exact rdse6_4_0.at h
  ·exact rdse6_4_1.at h
  ·exact rdse6_4_2.at h
 |6,5,_,_,hk,h0,h5,ho=>
  have:=h5 rfl
  have hm:k∈[11]++([1,2,3,4,5,6]++([7,8,9,10,12,13]++([14,15,16,17]))):=rdMem (a:=1) (n:=17) (by omega) (by omega) (by rfl)
  simp only[List.mem_append]at hm
  rcases hm with h|h|h|h
  ·simp only[List.mem_cons,List.mem_nil_iff,or_false]at h
   rcases h with h<;>(subst h;exact absurd ho (by decide))
  ·exact rdse6_5_0.at h
  ·exact rdse6_5_1.at h
  ·exact rdse6_5_2.at h
 |7,0,_,_,hk,h0,h5,_=>have:=h0 rfl;exact rdse7_0_0.at (rdMem (a:=0) (n:=0) (by omega) (by omega) (by rfl))
 |7,1,_,_,hk,h0,h5,ho=>
  have hm:k∈[13]++([0,1,2,3,4,5]++([6,7,8,9,10,11]++([12,14,15,16,17,18]++([19])))):=rdMem (a:=0) (n:=19) (by omega) (by omega) (by rfl)
  simp only[List.mem_append]at hm
  rcases hm with h|h|h|h|h
  ·simp only[List.mem_cons,List.mem_nil_iff,or_false]at h
   rcases h with h<;>(subst h;exact absurd ho (by decide))
  ·exact rdse7_1_0.at h
  ·exact rdse7_1_1.at h
  ·exact rdse7_1_2.at h
  ·exact rdse7_1_3.at h
 |7,2,_,_,hk,h0,h5,ho=>
  have hm:k∈[13]++([0,1,2,3,4,5]++([6,7,8,9,10,11]++([12,14,15,16,17,18]++([19])))):=rdMem (a:=0) (n:=19) (by omega) (by omega) (by rfl)
  simp only[List.mem_append]at hm
  rcases hm with h|h|h|h|h
  ·simp only[List.mem_cons,List.mem_nil_iff,or_false]at h
   rcases h with h<;>(subst h;exact absurd ho (by decide))
  ·exact rdse7_2_0.at h
  ·exact rdse7_2_1.at h
  ·exact rdse7_2_2.at h
  ·exact rdse7_2_3.at h
 |7,3,_,_,hk,h0,h5,ho=>
  have hm:k∈[13]++([0,1,2,3,4,5]++([6,7,8,9,10,11]++([12,14,15,16,17,18]++([19])))):=rdMem (a:=0) (n:=19) (by omega) (by omega) (by rfl)
  simp only[List.mem_append]at hm
  rcases hm with h|h|h|h|h
  ·simp only[List.mem_cons,List.mem_nil_iff,or_false]at h
   rcases h with h<;>(subst h;exact absurd ho (by decide))
  ·exact rdse7_3_0.at h
  ·exact rdse7_3_1.at h
  ·exact rdse7_3_2.at h
  ·exact rdse7_3_3.at h
 |7,4,_,_,hk,h0,h5,ho=>
  have hm:k∈[13]++([0,1,2,3,4,5]++([6,7,8,9,10,11]++([12,14,15,16,17,18]++([19])))):=rdMem (a:=0) (n:=19) (by omega) (by omega) (by rfl)
  simp only[List.mem_append]at hm
  rcases hm with h|h|h|h|h
  ·simp only[List.mem_cons,List.mem_nil_iff,or_false]at h
   rcases h with h<;>(subst h;exact absurd ho (by decide))
  ·exact rdse7_4_0.at h
  ·exact rdse7_4_1.at h
  ·exact rdse7_4_2.at h
  ·exact rdse7_4_3.at h
 |7,5,_,_,hk,h0,h5,ho=>
  have:=h5 rfl
  have hm:k∈[13]++([1,2,3,4,5,6]++([7,8,9,10,11,12]++([14,15,16,17,18,19]))):=rdMem (a:=1) (n:=19) (by omega) (by omega) (by rfl)
  simp only[List.mem_append]at hm
  rcases hm with h|h|h|h
  ·simp only[List.mem_cons,List.mem_nil_iff,or_false]at h
   rcases h with h<;>(subst h;exact absurd ho (by decide))
  ·exact rdse7_5_0.at h
  ·exact rdse7_5_1.at h
  ·exact rdse7_5_2.at h
 |8,0,_,_,hk,h0,h5,_=>have:=h0 rfl;exact rdse8_0_0.at (rdMem (a:=0) (n:=0) (by omega) (by omega) (by rfl))
 |8,1,_,_,hk,h0,h5,_=>
  have hm:k∈[0,1,2,3,4,5]++([6,7,8,9,10,11]++([12,13,14,15,16,17]++([18,19,20,21]))):=rdMem (a:=0) (n:=21) (by omega) (by omega) (by rfl)
  simp only[List.mem_append]at hm
  rcases hm with h|h|h|h
  ·exact rdse8_1_0.at h
  ·exact rdse8_1_1.at h
  ·exact rdse8_1_2.at h
  ·exact rdse8_1_3.at h
 |8,2,_,_,hk,h0,h5,_=>
  have hm:k∈[0,1,2,3,4,5]++([6,7,8,9,10,11]++([12,13,14,15,16,17]++([18,19,20,21]))):=rdMem (a:=0) (n:=21) (by omega) (by omega) (by rfl)
  simp only[List.mem_append]at hm
  rcases hm with h|h|h|h
  ·exact rdse8_2_0.at h
  ·exact rdse8_2_1.at h
  ·exact rdse8_2_2.at h
  ·exact rdse8_2_3.at h
 |8,3,_,_,hk,h0,h5,_=>
  have hm:k∈[0,1,2,3,4,5]++([6,7,8,9,10,11]++([12,13,14,15,16,17]++([18,19,20,21]))):=rdMem (a:=0) (n:=21) (by omega) (by omega) (by rfl)
  simp only[List.mem_append]at hm
  rcases hm with h|h|h|h
  ·exact rdse8_3_0.at h
  ·exact rdse8_3_1.at h
  ·exact rdse8_3_2.at h
  ·exact rdse8_3_3.at h
 |8,4,_,_,hk,h0,h5,_=>
  have hm:k∈[0,1,2,3,4,5]++([6,7,8,9,10,11]++([12,13,14,15,16,17]++([18,19,20,21]))):=rdMem (a:=0) (n:=21) (by omega) (by omega) (by rfl)
  simp only[List.mem_append]at hm
  rcases hm with h|h|h|h
  ·exact rdse8_4_0.at h
  ·exact rdse8_4_1.at h
  ·exact rdse8_4_2.at h
  ·exact rdse8_4_3.at h
 |8,5,_,_,hk,h0,h5,_=>
  have:=h5 rfl
  have hm:k∈[1,2,3,4,5,6]++([7,8,9,10,11,12]++([13,14,15,16,17,18]++([19,20,21]))):=rdMem (a:=1) (n:=21) (by omega) (by omega) (by rfl)
  simp only[List.mem_append]at hm
  rcases hm with h|h|h|h
  ·exact rdse8_5_0.at h
  ·exact rdse8_5_1.at h
  ·exact rdse8_5_2.at h
  ·exact rdse8_5_3.at h
 |9,0,_,_,hk,h0,h5,_=>have:=h0 rfl;exact rdse9_0_0.at (rdMem (a:=0) (n:=0) (by omega) (by omega) (by rfl))
 |9,1,_,_,hk,h0,h5,ho=>
  have hm:k∈[16]++([0,1,2,3,4,5]++([6,7,8,9,10,11]++([12,13,14,15,17,18]++([19,20,21,22,23,24])))):=rdMem (a:=0) (n:=24) (by omega) (by omega) (by rfl)
  simp only[List.mem_append]at hm
  rcases hm with h|h|h|h|h
  ·simp only[List.mem_cons,List.mem_nil_iff,or_false]at h
   rcases h with h<;>(subst h;exact absurd ho (by decide))
  ·exact rdse9_1_0.at h
  ·exact rdse9_1_1.at h
  ·exact rdse9_1_2.at h
  ·exact rdse9_1_3.at h
 |9,2,_,_,hk,h0,h5,ho=>
  have hm:k∈[16]++([0,1,2,3,4,5]++([6,7,8,9,10,11]++([12,13,14,15,17,18]++([19,20,21,22,23,24])))):=rdMem (a:=0) (n:=24) (by omega) (by omega) (by rfl)
  simp only[List.mem_append]at hm
  rcases hm with h|h|h|h|h
  ·simp only[List.mem_cons,List.mem_nil_iff,or_false]at h
   rcases h with h<;>(subst h;exact absurd ho (by decide))
  ·exact rdse9_2_0.at h
  ·exact rdse9_2_1.at h
  ·exact rdse9_2_2.at h
  ·exact rdse9_2_3.at h
 |9,3,_,_,hk,h0,h5,ho=>
  have hm:k∈[16]++([0,1,2,3,4,5]++([6,7,8,9,10,11]++([12,13,14,15,17,18]++([19,20,21,22,23,24])))):=rdMem (a:=0) (n:=24) (by omega) (by omega) (by rfl)
  simp only[List.mem_append]at hm
  rcases hm with h|h|h|h|h
  ·simp only[List.mem_cons,List.mem_nil_iff,or_false]at h
   rcases h with h<;>(subst h;exact absurd ho (by decide))
  ·exact rdse9_3_0.at h
  ·exact rdse9_3_1.at h
  ·exact rdse9_3_2.at h
  ·exact rdse9_3_3.at h
 |9,4,_,_,hk,h0,h5,ho=>
  have hm:k∈[16]++([0,1,2,3,4,5]++([6,7,8,9,10,11]++([12,13,14,15,17,18]++([19,20,21,22,23,24])))):=rdMem (a:=0) (n:=24) (by omega) (by omega) (by rfl)
  simp only[List.mem_append]at hm
  rcases hm with h|h|h|h|h
  ·simp only[List.mem_cons,List.mem_nil_iff,or_false]at h
   rcases h with h<;>(subst h;exact absurd ho (by decide))
  ·exact rdse9_4_0.at h
  ·exact rdse9_4_1.at h
  ·exact rdse9_4_2.at h
  ·exact rdse9_4_3.at h
 |9,5,_,_,hk,h0,h5,ho=>
  have:=h5 rfl
  have hm:k∈[16]++([1,2,3,4,5,6]++([7,8,9,10,11,12]++([13,14,15,17,18,19]++([20,21,22,23,24])))):=rdMem (a:=1) (n:=24) (by omega) (by omega) (by rfl)
  simp only[List.mem_append]at hm
  rcases hm with h|h|h|h|h
  ·simp only[List.mem_cons,List.mem_nil_iff,or_false]at h
   rcases h with h<;>(subst h;exact absurd ho (by decide))
  ·exact rdse9_5_0.at h
  ·exact rdse9_5_1.at h
  ·exact rdse9_5_2.at h
  ·exact rdse9_5_3.at h
 |10,0,_,_,hk,h0,h5,_=>have:=h0 rfl;exact rdse10_0_0.at (rdMem (a:=0) (n:=0) (by omega) (by omega) (by rfl))
 |10,1,_,_,hk,h0,h5,ho=>
  have hm:k∈[18]++([0,1,2,3,4,5]++([6,7,8,9,10,11]++([12,13,14,15,16,17]++([19,20,21,22,23,24]++([25,26]))))):=rdMem (a:=0) (n:=26) (by omega) (by omega) (by rfl)
  simp only[List.mem_append]at hm
  rcases hm with h|h|h|h|h|h
  ·simp only[List.mem_cons,List.mem_nil_iff,or_false]at h
   rcases h with h<;>(subst h;exact absurd ho (by decide))
  ·exact rdse10_1_0.at h
  ·exact rdse10_1_1.at h
  ·exact rdse10_1_2.at h
  ·exact rdse10_1_3.at h
  ·exact rdse10_1_4.at h
 |10,2,_,_,hk,h0,h5,ho=>
  have hm:k∈[18]++([0,1,2,3,4,5]++([6,7,8,9,10,11]++([12,13,14,15,16,17]++([19,20,21,22,23,24]++([25,26]))))):=rdMem (a:=0) (n:=26) (by omega) (by omega) (by rfl)
  simp only[List.mem_append]at hm
  rcases hm with h|h|h|h|h|h
  ·simp only[List.mem_cons,List.mem_nil_iff,or_false]at h
   rcases h with h<;>(subst h;exact absurd ho (by decide))
  ·exact rdse10_2_0.at h
  ·exact rdse10_2_1.at h
  ·exact rdse10_2_2.at h
  ·exact rdse10_2_3.at h
  ·exact rdse10_2_4.at h
 |10,3,_,_,hk,h0,h5,ho=>
  have hm:k∈[18]++([0,1,2,3,4,5]++([6,7,8,9,10,11]++([12,13,14,15,16,17]++([19,20,21,22,23,24]++([25,26]))))):=rdMem (a:=0) (n:=26) (by omega) (by omega) (by rfl)
  simp only[List.mem_append]at hm
  rcases hm with h|h|h|h|h|h
  ·simp only[List.mem_cons,List.mem_nil_iff,or_false]at h
   rcases h with h<;>(subst h;exact absurd ho (by decide))
  ·exact rdse10_3_0.at h
  ·exact rdse10_3_1.at h
  ·exact rdse10_3_2.at h
  ·exact rdse10_3_3.at h
  ·exact rdse10_3_4.at h
 |10,4,_,_,hk,h0,h5,ho=>
  have hm:k∈[18]++([0,1,2,3,4,5]++([6,7,8,9,10,11]++([12,13,14,15,16,17]++([19,20,21,22,23,24]++([25,26]))))):=rdMem (a:=0) (n:=26) (by omega) (by omega) (by rfl)
  simp only[List.mem_append]at hm
  rcases hm with h|h|h|h|h|h
  ·simp only[List.mem_cons,List.mem_nil_iff,or_false]at h
   rcases h with h<;>(subst h;exact absurd ho (by decide))
  ·exact rdse10_4_0.at h
  ·exact rdse10_4_1.at h
  ·exact rdse10_4_2.at h
  ·exact rdse10_4_3.at h
  ·exact rdse10_4_4.at h
 |10,5,_,_,hk,h0,h5,ho=>
  have:=h5 rfl
  have hm:k∈[18]++([1,2,3,4,5,6]++([7,8,9,10,11,12]++([13,14,15,16,17,19]++([20,21,22,23,24,25]++([26]))))):=rdMem (a:=1) (n:=26) (by omega) (by omega) (by rfl)
  simp only[List.mem_append]at hm
  rcases hm with h|h|h|h|h|h
  ·simp only[List.mem_cons,List.mem_nil_iff,or_false]at h
   rcases h with h<;>(subst h;exact absurd ho (by decide))
  ·exact rdse10_5_0.at h
  ·exact rdse10_5_1.at h
  ·exact rdse10_5_2.at h
  ·exact rdse10_5_3.at h
  ·exact rdse10_5_4.at h
 |11,0,_,_,hk,h0,h5,_=>have:=h0 rfl;exact rdse11_0_0.at (rdMem (a:=0) (n:=0) (by omega) (by omega) (by rfl))
 |11,1,_,_,hk,h0,h5,ho=>
  have hm:k∈[19,20]++([0,1,2,3,4,5]++([6,7,8,9,10,11]++([12,13,14,15,16,17]++([18,21,22,23,24,25]++([26,27,28,29]))))):=rdMem (a:=0) (n:=29) (by omega) (by omega) (by rfl)
  simp only[List.mem_append]at hm
  rcases hm with h|h|h|h|h|h
  ·simp only[List.mem_cons,List.mem_nil_iff,or_false]at h
   rcases h with h|h<;>(subst h;exact absurd ho (by decide))
  ·exact rdse11_1_0.at h
  ·exact rdse11_1_1.at h
  ·exact rdse11_1_2.at h
  ·exact rdse11_1_3.at h
  ·exact rdse11_1_4.at h
 |11,2,_,_,hk,h0,h5,ho=>
  have hm:k∈[19,20]++([0,1,2,3,4,5]++([6,7,8,9,10,11]++([12,13,14,15,16,17]++([18,21,22,23,24,25]++([26,27,28,29]))))):=rdMem (a:=0) (n:=29) (by omega) (by omega) (by rfl)
  simp only[List.mem_append]at hm
  rcases hm with h|h|h|h|h|h
  ·simp only[List.mem_cons,List.mem_nil_iff,or_false]at h
   rcases h with h|h<;>(subst h;exact absurd ho (by decide))
  ·exact rdse11_2_0.at h
  ·exact rdse11_2_1.at h
  ·exact rdse11_2_2.at h
  ·exact rdse11_2_3.at h
  ·exact rdse11_2_4.at h
 |11,3,_,_,hk,h0,h5,ho=>
  have hm:k∈[19,20]++([0,1,2,3,4,5]++([6,7,8,9,10,11]++([12,13,14,15,16,17]++([18,21,22,23,24,25]++([26,27,28,29]))))):=rdMem (a:=0) (n:=29) (by omega) (by omega) (by rfl)
  simp only[List.mem_append]at hm
  rcases hm with h|h|h|h|h|h
  ·simp only[List.mem_cons,List.mem_nil_iff,or_false]at h
   rcases h with h|h<;>(subst h;exact absurd ho (by decide))
  ·exact rdse11_3_0.at h
  ·exact rdse11_3_1.at h
  ·exact rdse11_3_2.at h
  ·exact rdse11_3_3.at h
  ·exact rdse11_3_4.at h
 |11,4,_,_,hk,h0,h5,ho=>
  have hm:k∈[19,20]++([0,1,2,3,4,5]++([6,7,8,9,10,11]++([12,13,14,15,16,17]++([18,21,22,23,24,25]++([26,27,28,29]))))):=rdMem (a:=0) (n:=29) (by omega) (by omega) (by rfl)
  simp only[List.mem_append]at hm
  rcases hm with h|h|h|h|h|h
  ·simp only[List.mem_cons,List.mem_nil_iff,or_false]at h
   rcases h with h|h<;>(subst h;exact absurd ho (by decide))
  ·exact rdse11_4_0.at h
  ·exact rdse11_4_1.at h
  ·exact rdse11_4_2.at h
  ·exact rdse11_4_3.at h
  ·exact rdse11_4_4.at h
 |11,5,_,_,hk,h0,h5,ho=>
  have:=h5 rfl
  have hm:k∈[19,20]++([1,2,3,4,5,6]++([7,8,9,10,11,12]++([13,14,15,16,17,18]++([21,22,23,24,25,26]++([27,28,29]))))):=rdMem (a:=1) (n:=29) (by omega) (by omega) (by rfl)
  simp only[List.mem_append]at hm
  rcases hm with h|h|h|h|h|h
  ·simp only[List.mem_cons,List.mem_nil_iff,or_false]at h
   rcases h with h|h<;>(subst h;exact absurd ho (by decide))
  ·exact rdse11_5_0.at h
  ·exact rdse11_5_1.at h
  ·exact rdse11_5_2.at h
  ·exact rdse11_5_3.at h
  ·exact rdse11_5_4.at h
 |i+12,_,h,_,_,_,_,_=>omega
 |_,sh+6,_,h,_,_,_,_=>omega
theorem rdSxQ{i sh k:Nat}(hs:sh≤5)(h0:sh=0→k=0)(ho:rdOdd i k=true):RdSx i sh k:=by
 have hik:(i=6∧k=11)∨(i=7∧k=13)∨(i=9∧k=16)∨(i=10∧k=18)∨(i=11∧k=19)∨(i=11∧k=20):=by
  unfold rdOdd at ho
  split at ho
  all_goals first|(simp only[Bool.or_eq_true,decide_eq_true_eq]at ho;omega)|cases ho
 rcases hik with⟨rfl,rfl⟩|⟨rfl,rfl⟩|⟨rfl,rfl⟩|⟨rfl,rfl⟩|⟨rfl,rfl⟩|⟨rfl,rfl⟩
 ·match sh,hs,h0 with
  |0,_,h0=>exact absurd (h0 rfl) (by decide)
  |1,_,_=>exact rdsx6_1_11.at (by simp)
  |2,_,_=>exact rdsx6_2_11.at (by simp)
  |3,_,_=>exact rdsx6_3_11.at (by simp)
  |4,_,_=>exact rdsx6_4_11.at (by simp)
  |5,_,_=>exact rdsx6_5_11.at (by simp)
  |sh+6,h,_=>omega
 ·match sh,hs,h0 with
  |0,_,h0=>exact absurd (h0 rfl) (by decide)
  |1,_,_=>exact rdsx7_1_13.at (by simp)
  |2,_,_=>exact rdsx7_2_13.at (by simp)
  |3,_,_=>exact rdsx7_3_13.at (by simp)
  |4,_,_=>exact rdsx7_4_13.at (by simp)
  |5,_,_=>exact rdsx7_5_13.at (by simp)
  |sh+6,h,_=>omega
 ·match sh,hs,h0 with
  |0,_,h0=>exact absurd (h0 rfl) (by decide)
  |1,_,_=>exact rdsx9_1_16.at (by simp)
  |2,_,_=>exact rdsx9_2_16.at (by simp)
  |3,_,_=>exact rdsx9_3_16.at (by simp)
  |4,_,_=>exact rdsx9_4_16.at (by simp)
  |5,_,_=>exact rdsx9_5_16.at (by simp)
  |sh+6,h,_=>omega
 ·match sh,hs,h0 with
  |0,_,h0=>exact absurd (h0 rfl) (by decide)
  |1,_,_=>exact rdsx10_1_18.at (by simp)
  |2,_,_=>exact rdsx10_2_18.at (by simp)
  |3,_,_=>exact rdsx10_3_18.at (by simp)
  |4,_,_=>exact rdsx10_4_18.at (by simp)
  |5,_,_=>exact rdsx10_5_18.at (by simp)
  |sh+6,h,_=>omega
 ·match sh,hs,h0 with
  |0,_,h0=>exact absurd (h0 rfl) (by decide)
  |1,_,_=>exact rdsx11_1_19.at (by simp)
  |2,_,_=>exact rdsx11_2_19.at (by simp)
  |3,_,_=>exact rdsx11_3_19.at (by simp)
  |4,_,_=>exact rdsx11_4_19.at (by simp)
  |5,_,_=>exact rdsx11_5_19.at (by simp)
  |sh+6,h,_=>omega
 ·match sh,hs,h0 with
  |0,_,h0=>exact absurd (h0 rfl) (by decide)
  |1,_,_=>exact rdsx11_1_20.at (by simp)
  |2,_,_=>exact rdsx11_2_20.at (by simp)
  |3,_,_=>exact rdsx11_3_20.at (by simp)
  |4,_,_=>exact rdsx11_4_20.at (by simp)
  |5,_,_=>exact rdsx11_5_20.at (by simp)
  |sh+6,h,_=>omega
def rdPos(ph k m:Nat):Prop:=(ph=0∧k=0∧m=0)∨(1≤ph∧ph≤15∧m=16*k+ph)∨(ph=16∧1≤k∧m=16*k)
theorem rdPos_le{ph k m:Nat}(h:rdPos ph k m):ph≤16:=by unfold rdPos at h;omega
theorem rdPos_0{k m:Nat}(h:rdPos 0 k m):k=0:=by unfold rdPos at h;omega
theorem rdPos_16{k m:Nat}(h:rdPos 16 k m):1≤k:=by unfold rdPos at h;omega
theorem rdShQ{ph k m:Nat}(hp:rdPos ph k m): ∃sh v,sh≤5∧(sh=0→k=0∧ph=0)∧(sh=5→1≤k)∧(ph=0→sh=0)∧rdTrim (rdM ph (oB k) (.ofNat k) (rB k))=rdShM sh k v:=by
 have hq:=rdPos_le hp
 match ph,hq with
 |0,_=>exact⟨0,⟨0,0,0,0,0,0,0,0,0,0,0,0⟩,by omega,fun _=>⟨rdPos_0 hp,rfl⟩,fun h=>by omega,fun _=>rfl,rfl⟩
 |1,_=>exact⟨1,⟨0,0,0,(oB k),(.ofNat k),(rB k),0,0,0,0,0,0⟩,by omega,fun h=>by omega,fun h=>by omega,fun h=>by omega,rfl⟩
 |2,_=>exact⟨3,⟨0,1,1,(oB k),(.ofNat k),(rB k),2,(.ofNat k),0,0,0,0⟩,by omega,fun h=>by omega,fun h=>by omega,fun h=>by omega,rfl⟩
 |3,_=>exact⟨4,⟨0,2,2,(oB k),(.ofNat k),(rB k),2,(.ofNat k),0,2,1,0⟩,by omega,fun h=>by omega,fun h=>by omega,fun h=>by omega,rfl⟩
 |4,_=>exact⟨3,⟨0,3,3,(oB k),(.ofNat k),(rB k),2,(incN (.ofNat k)),0,0,0,0⟩,by omega,fun h=>by omega,fun h=>by omega,fun h=>by omega,rfl⟩
 |5,_=>exact⟨2,⟨3,4,4,(oB k),(incN (.ofNat k)),(rB k),0,0,0,0,0,0⟩,by omega,fun h=>by omega,fun h=>by omega,fun h=>by omega,rfl⟩
 |6,_=>exact⟨3,⟨0,5,5,(oB k),(incN (.ofNat k)),(rB k),2,0,0,0,0,0⟩,by omega,fun h=>by omega,fun h=>by omega,fun h=>by omega,rfl⟩
 |7,_=>exact⟨4,⟨0,6,6,(oB k),(incN (.ofNat k)),(rB k),2,0,0,2,0,0⟩,by omega,fun h=>by omega,fun h=>by omega,fun h=>by omega,rfl⟩
 |8,_=>exact⟨3,⟨0,7,7,(oB k),(incN (.ofNat k)),(rB k),2,0,0,0,0,0⟩,by omega,fun h=>by omega,fun h=>by omega,fun h=>by omega,rfl⟩
 |9,_=>exact⟨2,⟨7,8,8,0,(incN (.ofNat k)),(rB k),0,0,0,0,0,0⟩,by omega,fun h=>by omega,fun h=>by omega,fun h=>by omega,rfl⟩
 |10,_=>exact⟨3,⟨0,9,9,0,(incN (.ofNat k)),(rB k),1,0,0,0,0,0⟩,by omega,fun h=>by omega,fun h=>by omega,fun h=>by omega,rfl⟩
 |11,_=>exact⟨2,⟨12,13,10,0,(incN (.ofNat k)),(rB k),0,0,0,0,0,0⟩,by omega,fun h=>by omega,fun h=>by omega,fun h=>by omega,rfl⟩
 |12,_=>exact⟨3,⟨0,14,11,0,(incN (.ofNat k)),(rB k),5,0,(rB k),0,0,0⟩,by omega,fun h=>by omega,fun h=>by omega,fun h=>by omega,rfl⟩
 |13,_=>exact⟨4,⟨0,15,12,0,(incN (.ofNat k)),(rB k),5,0,(rB k),5,0,4602678819172646912⟩,by omega,fun h=>by omega,fun h=>by omega,fun h=>by omega,rfl⟩
 |14,_=>exact⟨3,⟨0,16,13,0,(incN (.ofNat k)),(rB k),5,0,(halfF (rB k)),0,0,0⟩,by omega,fun h=>by omega,fun h=>by omega,fun h=>by omega,rfl⟩
 |15,_=>exact⟨2,⟨16,17,14,0,(incN (.ofNat k)),(halfF (rB k)),0,0,0,0,0,0⟩,by omega,fun h=>by omega,fun h=>by omega,fun h=>by omega,rfl⟩
 |16,_=>exact⟨5,⟨0,17,15,0,(.ofNat k),(rB k),0,0,0,0,0,0⟩,by omega,fun h=>by omega,fun h=>rdPos_16 hp,fun h=>by omega,rfl⟩
 |ph+17,h=>omega
end Go.Proofs.YtibobihgolfplaaGreatDoor.Ev
end
section
namespace Go.Proofs.YtibobihgolfplaaGreatDoor.Ev
open Go Go.RowKit
theorem incN_l:(List.range 32).map (fun k=>incN (.ofNat k))=(List.range 32).map (fun k=>Int.ofNat (k+1)):=by kernel_rfl
theorem incI_l:(List.range 32).map (fun k=>incI (.ofNat k))=(List.range 32).map (fun k=>Int.ofNat (k+1)):=by kernel_rfl
theorem half_l:(List.range 31).map (fun k=>halfF (rB k))=(List.range 31).map (fun k=>rB (k+1)):=by kernel_rfl
theorem incN_at{k:Nat}(h:k≤30):incN (.ofNat k)= .ofNat (k+1):=List.map_inj_left.1 incN_l k (List.mem_range.2 (by omega))
theorem incI_at{k:Nat}(h:k≤30):incI (.ofNat k)= .ofNat (k+1):=List.map_inj_left.1 incI_l k (List.mem_range.2 (by omega))
theorem half_at{k:Nat}(h:k≤30):halfF (rB k)=rB (k+1):=List.map_inj_left.1 half_l k (List.mem_range.2 (by omega))
theorem m40_eq{x:Int}(h0:0≤x)(h1:x<256): ∃c:Nat,c≤39∧m40 x=Int.ofNat c:=by
 refine⟨(x%40).toNat,by omega,?_⟩
 unfold m40
 rw[Int.tmod_eq_emod_of_nonneg h0,w64 (by omega) (by omega)]
 simp only[Int.ofNat_eq_natCast];omega
def nxK(ph k:Nat):Nat:=match ph with
 |15=>k+1
 |_=>k
theorem nxP_eq: ∀ph,ph≤14→nxP ph=ph+1:=by
 intro ph h
 match ph,h with
 |0,_|1,_|2,_|3,_|4,_|5,_|6,_|7,_|8,_|9,_|10,_|11,_|12,_|13,_|14,_=>rfl
theorem nxK_eq{ph:Nat}(k:Nat)(h:ph≠15):nxK ph k=k:=by
 unfold nxK
 split
 ·exact absurd rfl h
 ·rfl
theorem rdPos_nx{ph k m:Nat}(hp:rdPos ph k m):rdPos (nxP ph) (nxK ph k) (m+1):=by
 rcases hp with⟨rfl,rfl,rfl⟩|⟨h1,h2,rfl⟩|⟨rfl,h2,rfl⟩
 ·show rdPos 1 0 (0+1)
  unfold rdPos;omega
 ·by_cases h:ph=15
  ·subst h
   show rdPos 16 (k+1) (16*k+15+1)
   unfold rdPos;omega
  ·rw[nxP_eq ph (by omega),nxK_eq k h]
   unfold rdPos;omega
 ·show rdPos 1 k (16*k+1)
  unfold rdPos;omega
theorem nx_ok{ph k m:Nat}(hp:rdPos ph k m)(hk:k≤30):nxO ph (oB k)=oB (nxK ph k)∧nxN ph (.ofNat k)= .ofNat (nxK ph k)∧nxI ph (.ofNat k)= .ofNat (nxK ph k)∧nxR ph (rB k)=rB (nxK ph k)∧rdPos (nxP ph) (nxK ph k) (m+1)∧1≤nxP ph:=by
 have a:=rdPos_le hp
 have nx:=rdPos_nx hp
 match ph,a with
 |0,_=>
  have:=rdPos_0 hp
  subst this
  exact⟨rfl,rfl,rfl,rfl,nx,by decide⟩
 |15,_=>exact⟨rfl,incN_at hk,incI_at hk,half_at hk,nx,by decide⟩
 |16,_=>
  obtain⟨j,rfl⟩: ∃j,k=j+1:=⟨k-1,by have:=rdPos_16 hp;omega⟩
  exact⟨rfl,rfl,rfl,rfl,nx,by decide⟩
 |1,_|2,_|3,_|4,_|5,_|6,_|7,_|8,_|9,_|10,_|11,_|12,_|13,_|14,_=>exact⟨rfl,rfl,rfl,rfl,nx,by decide⟩
theorem p_ok{ph k m:Nat}(hp:rdPos ph k m):oP ph (oB k)=oB k∧nP ph (.ofNat k)= .ofNat k∧rP ph (rB k)=rB k:=by
 have a:=rdPos_le hp
 match ph,a with
 |0,_=>
  have:=rdPos_0 hp
  subst this
  exact⟨rfl,rfl,rfl⟩
 |16,_=>
  obtain⟨j,rfl⟩: ∃j,k=j+1:=⟨k-1,by have:=rdPos_16 hp;omega⟩
  exact⟨rfl,rfl,rfl⟩
 |1,_|2,_|3,_|4,_|5,_|6,_|7,_|8,_|9,_|10,_|11,_|12,_|13,_|14,_|15,_=>exact⟨rfl,rfl,rfl⟩
theorem nxH_le(ph h:Nat):nxH ph h≤h+1:=by unfold nxH;split<;>omega
theorem rdIn_succ(k i ph:Nat)(b:Bool)(o n N:Int)(r:Nat):RdIn (k+1) i ph b o n N r=RdIn 1 i ph b o n N r:=by kernel_rfl
theorem rdAs_succ(k i ph:Nat)(b:Bool)(o n N:Int)(r:Nat):RdAs (k+1) i ph b o n N r=RdAs 1 i ph b o n N r:=by kernel_rfl
theorem rdIn_all{i ph k m:Nat}{b:Bool}(hi:i≤11)(hp:rdPos ph k m)(hb1:b=true→1≤ph)(hb0:b=false→i=0→ph=0):RdIn k i ph b (oB k) (.ofNat k) (.ofNat k) (rB k):=by
 have a:=rdPos_le hp
 cases k with
 |zero=>exact rdInQ0 hi (by unfold rdPos at hp;omega) hb1 hb0
 |succ k=>
  rw[rdIn_succ]
  exact rdInQ1 _ _ _ hi a (by unfold rdPos at hp;omega) hb1 hb0
theorem rdAs_all{i ph k m:Nat}{b:Bool}(hi:i≤11)(hp:rdPos ph k m)(hb1:b=true→1≤ph)(hb0:b=false→i=0→ph=0):RdAs k i ph b (oB k) (.ofNat k) (.ofNat k) (rB k):=by
 have a:=rdPos_le hp
 cases k with
 |zero=>exact rdAsQ0 hi (by unfold rdPos at hp;omega) hb1 hb0
 |succ k=>
  rw[rdAs_succ]
  exact rdAsQ1 _ _ _ hi a (by unfold rdPos at hp;omega) hb1 hb0
noncomputable def rdZ(i ph k:Nat)(b:Bool)(G:RdG)(h:Nat)(g:AObj):ASt:=mkS (rdSt i ph b G (oB k) (.ofNat k) (.ofNat k) (rB k) h dustE g)
theorem rdZ_head{i ph k m sh:Nat}{v:RdV}(hp:rdPos ph k m)(e:rdTrim (rdM ph (oB k) (.ofNat k) (rB k))=rdShM sh k v)(G:RdG)(h:Nat)(g:AObj):rdZ i ph k false G h g=mkS (rdHs i sh k v G (oB k) (.ofNat k) (.ofNat k) (rB k) h g):=by
 obtain⟨e1,e2,e3⟩:=p_ok hp
 unfold rdZ rdSt rdHs
 rw[e1,e2,e3,show rdMb ph false (oB k) (.ofNat k) (rB k)=rdTrim (rdM ph (oB k) (.ofNat k) (rB k))from rfl,e]
theorem seenH{β:Bs}{f:AFr}{i a kd:Nat}{m:RdM}{G:RdG}{o n N:Int}{r h:Nat}{e:Nat→Nat→Td}{g:AObj}{l:List (Option AObj)}:Seen β f (mkS (rdHeap i a kd m G o n N r h e g l)) f (mkS (rdHeap i a kd m G o n N r h dustE g l)):=by
 unfold rdHeap rdS2
 exact Seen.dust
theorem ndH_of{h:Nat}{K:Prop}(hh:h≤999999)(hK:K):ndH h K:=by
 unfold ndH
 exact need_of (Nat.ble_eq_true_of_le (by omega)) (need_of (by rw[Nat.zero_add];simp) hK)
theorem ndN_of{N:Int}{K:Prop}(hK:K):ndN N K:=need_of (by simp) hK
theorem rdNd_of{ph k h:Nat}{K:Prop}(hk:k≤30)(hh:h≤999999)(hK:K):rdNd ph (.ofNat k) h K:=by
 unfold rdNd
 split
 ·exact ndH_of hh hK
 ·refine need_of ?_ (ndH_of hh hK)
  rw[incI_at hk]
  simp only[bne_iff_ne,ne_eq,Int.ofNat_eq_natCast];omega
 ·exact ndH_of hh (need_of (by simp) hK)
 ·exact need_of (by simp) hK
structure PIn where
 ph:Nat
 k:Nat
 m:Nat
 s:Nat
 h:Nat
 b:Bool
def InI(i:Nat)(p:PIn):Prop:=rdPos p.ph p.k p.m∧p.m≤39*i+p.s∧p.s≤39∧(p.b=true→1≤p.ph)∧(p.b=false→i=0→p.ph=0)∧p.h≤41*i+p.s+1
def exIn(L c i:Nat)(y:Nat→Int)(G:RdG):Nat→Kt→Prop:=fun _ K=> ∀ph k m h b,rdPos ph k m→m≤39*(i+1)→(b=true→1≤ph)→(b=false→i=0→ph=0)→h≤41*i+40→K (.exit 2) (rdFo L c i) (rdZ i ph k b G h (rdRow L y))
theorem rd_inner{L c i:Nat}{y:Nat→Int}{G:RdG}(hi:i≤11)(hL:i<L)(hy: ∀i,i<L→0≤y i∧y i<256){β:Bs}(hβ:β.X.length=1): ∀p,InI i p→LoopJ Tryz.prog β (exIn L c i y G) 2 rdInner (rdFi L c i (.ofNat p.s)) (rdZ i p.ph p.k p.b G p.h (rdRow L y)):=by
 obtain⟨cc,hc,hm⟩:=m40_eq (hy i hL).1 (hy i hL).2
 refine loop_rule (InI i) (fun p=>rdFi L c i (.ofNat p.s)) (fun p=>rdZ i p.ph p.k p.b G p.h (rdRow L y)) (fun p=>40-p.s) (fun p hI K hK=> ?_)
 have hK: ∀ph k m h b,rdPos ph k m→m≤39*(i+1)→(b=true→1≤ph)→(b=false→i=0→ph=0)→h≤41*i+40→K (.exit 2) (rdFo L c i) (rdZ i ph k b G h (rdRow L y)):=hK
 obtain⟨ph,k,m,s,h,b⟩:=p
 obtain⟨hp,h1,h2,h3,h4,h5⟩:=hI
 have hp:rdPos ph k m:=hp
 have h1:m≤39*i+s:=h1
 have h2:s≤39:=h2
 have h3:b=true→1≤ph:=h3
 have h4:b=false→i=0→ph=0:=h4
 have h5:h≤41*i+s+1:=h5
 have hk:k≤30:=by unfold rdPos at hp;omega
 rcases Nat.lt_or_ge s cc with hs|hs
 ·obtain⟨e1,e2,e3,e4,e5,e6⟩:=nx_ok hp hk
  refine pieceO_ok follows (toldR_ok k i ph b) hβ (lv:=rdLi) (T:=[32]) (os:=[true]) ?_
  refine(rdIn_all hi hp h3 h4 c L y G h (.ofNat s) _).mpr ?_
  unfold rdInB
  refine need_of (by simpa using hL) (need_of (by simpa using hL) (need_of ?_ (rdNd_of hk (by omega) ?_)))
  ·rw[Nat.zero_add,hm]
   simp only[decide_eq_true_eq,Int.ofNat_eq_natCast];omega
  ·refine .inl ⟨rfl,⟨nxP ph,nxK ph k,m+1,s+1,nxH ph h,true⟩,⟨e5,(by show m+1≤39*i+(s+1);omega),(by show s+1≤39;omega),fun _=>e6,(fun hb=>by cases hb),(by show nxH ph h≤41*i+(s+1)+1;have:=nxH_le ph h;omega)⟩,(by show 40-(s+1)<40-s;omega),?_⟩
   rw[e1,e2,e3,e4,w64 (by simp only[Int.ofNat_eq_natCast];omega) (by simp only[Int.ofNat_eq_natCast];omega)]
   show Seen β (rdFi L c i (.ofNat (s+1))) (mkS (rdSt i (nxP ph) true G (oB (nxK ph k)) (.ofNat (nxK ph k)) (.ofNat (nxK ph k)) (rB (nxK ph k)) (nxH ph h) (nxE ph h dustE) (rdRow L y))) (rdFi L c i (.ofNat (s+1))) (mkS (rdSt i (nxP ph) true G (oB (nxK ph k)) (.ofNat (nxK ph k)) (.ofNat (nxK ph k)) (rB (nxK ph k)) (nxH ph h) dustE (rdRow L y)))
   unfold rdSt
   exact seenH
 ·refine pieceO_ok follows toldV_ok hβ (lv:=rdLi) (T:=[32]) (os:=[false]) ?_
  refine(rdXiQ hi (rdPos_le hp) h3 h4 c L y G (oB k) (.ofNat k) (.ofNat k) (rB k) h (.ofNat s) _).mpr ?_
  unfold rdXiB
  refine need_of (by simpa using hL) (need_of (by simpa using hL) (need_of ?_ ?_))
  ·rw[Nat.zero_add,hm]
   simp only[Bool.not_eq_true',decide_eq_false_iff_not,Int.ofNat_eq_natCast];omega
  ·exact .inr ⟨by simp,by simp,_,_,Seen.refl _ _ _,hK ph k m h b hp (by omega) h3 h4 (by omega)⟩
end Go.Proofs.YtibobihgolfplaaGreatDoor.Ev
end
section
namespace Go.Proofs.YtibobihgolfplaaGreatDoor.Ev
open Go
noncomputable def rdH1:List Value:=[qi 3,qi 0,qi 0,.bool false,qi 0,q0,q0,qs 15 9 9]
noncomputable def rdCl0:List Value:=[qs 2 7 7,qs 3 4 4,qs 9 7 7,qs 10 18 18,qi 100,qs 11 9 9,qi 0,q0,q0,qi 0,qi 0,.bool true,qi 0,qi 0,qi 0,qi 0,qs 12 4 4,q0,qs 13 9 9,q0,q0,qs 14 1 1,.map none,.bool false]
noncomputable def rdH0(g:AObj):List (Option AObj):=some g::some (.cells rdCl0 true 0)::rdStat [some (rdImg 1 0 0),some (rdSe1 q0 q0 q0),some rdInp,some (.cells rdH1 true 8),some (rdImg 1 0 0)]
noncomputable def exR(L:Nat)(y:Nat→Int):Nat→Kt→Prop:=fun _ K=>K (.exit 0) (mkF rdTm []) (mkS [some (rdRow L y)])
theorem rdBig(c L:Nat)(y:Nat→Int)(β:Bs):lawE Tryz.prog toldV 1000 50 β (fun _=>0) (cnOf 1 (fun _=>[0,3,5])) (exR L y) 3 [rdSl L c] (mkS [some (rdRow L y)]) trueE=br (decide (Int.ofNat L>12)) True (LoopJ Tryz.prog β (exR L y) 0 rdBody (rdFo L c 0) (mkS (rdH0 (rdRow L y)))∧True):=by kernel_rfl
end Go.Proofs.YtibobihgolfplaaGreatDoor.Ev
end
section
namespace Go.Proofs.YtibobihgolfplaaGreatDoor.Ev
open Go Go.RowKit
theorem rdBody_eq:rdBody= .seq rdHead (.seq (.block 1 rdMid) rdTail):=by kernel_rfl
theorem rdMid_eq:rdMid= .seq (.seq rdZero (.block 2 (.loop rdInner))) rdRest:=by kernel_rfl
theorem rdRest_eq:rdRest=chainC rdAsk rdSend:=by kernel_rfl
theorem rdSeen0{β:Bs}(hβ:β.X.length=1)(c L:Nat)(y:Nat→Int)(G:RdG):Seen β (rdFo L c 0) (mkS (rdH0 (rdRow L y))) (rdFo L c 0) (rdZ 0 0 0 false G 1 (rdRow L y)):=by
 have hd:=Seen.dustCell (β:=β) (f:=rdFo L c 0) (l:=rdH0 (rdRow L y)) 1 21 14 8 1 1 (cs:=rdH1) (cq:=rdCl0) (ex:=true) (ek:=true) (eq:=0) (by omega) rfl rfl rfl (by kernel_rfl) (by show 1*8≤8;omega) (Nat.le_refl _) (by omega)
 exact hd.trans (Seen.canonD (E:=1) (slots:=[0,3,5]) hβ (fun K=>by kernel_rfl))
theorem rdSe_J{i sh k:Nat}(hi:i≤11)(hs:sh≤5)(hk:16*k≤39*(i+1))(h0:sh=0→k=0)(h5:sh=5→1≤k){β:Bs}(hβ:β.X.length=1){L c:Nat}{y:Nat→Int}{G:RdG}{h:Nat}{v:RdV}{K:Kt}(hh:h≤999999)(hK:K .normal (rdFo L c i) (mkS (rdHeap (i+1) (i+1) 2 (rdShM sh k v) (G.put i (oB k) (.ofNat k) (rB k)) (oB k) (.ofNat k) (.ofNat k) (rB k) (h+1) (dstE 1 h dustE) (rdRow L y) []))):
  J Tryz.prog β rdSend (rdFs L c i (rdEnd i (i+1) 3 (rdShM sh k v))) (mkS (rdSv i (rdShM sh k v) G (oB k) (.ofNat k) (.ofNat k) (rB k) h dustE (rdRow L y))) K:=by
 have fin:rdSeB i sh k c L y G h v K:=by
  unfold rdSeB
  exact ndN_of (ndH_of hh hK)
 cases ho:rdOdd i k with
 |false=>
  refine pieceO_ok follows toldE0_ok hβ (lv:=rdLx) (T:=[]) (os:=[]) ?_
  exact(rdSeQ hi hs hk h0 h5 ho c L y G h v K).mpr fin
 |true=>
  refine pieceO_ok follows toldX_ok hβ (lv:=rdLx) (T:=[]) (os:=[]) ?_
  exact(rdSxQ hs h0 ho c L y G h v K).mpr fin
structure POut where
 i:Nat
 ph:Nat
 k:Nat
 m:Nat
 h:Nat
 G:RdG
def OutI(L:Nat)(p:POut):Prop:=p.i≤L∧rdPos p.ph p.k p.m∧p.m≤39*p.i∧(p.i=0→p.ph=0)∧p.h≤41*p.i+1
theorem rd_loop{L c:Nat}{y:Nat→Int}(hL:L≤12)(hy: ∀i,i<L→0≤y i∧y i<256){β:Bs}(hβ:β.X.length=1): ∀p,OutI L p→LoopJ Tryz.prog β (exR L y) 0 rdBody (rdFo L c p.i) (rdZ p.i p.ph p.k false p.G p.h (rdRow L y)):=by
 refine loop_rule (OutI L) (fun p=>rdFo L c p.i) (fun p=>rdZ p.i p.ph p.k false p.G p.h (rdRow L y)) (fun p=>L-p.i) (fun p hI K hK=> ?_)
 have hK:K (.exit 0) (mkF rdTm []) (mkS [some (rdRow L y)]):=hK
 obtain⟨i,ph,k,m,h,G⟩:=p
 obtain⟨h1,hp,h3,h4,h5⟩:=hI
 have h1:i≤L:=h1
 have hp:rdPos ph k m:=hp
 have h3:m≤39*i:=h3
 have h4:i=0→ph=0:=h4
 have h5:h≤41*i+1:=h5
 obtain⟨sh,v,s1,s2,s3,s4,e⟩:=rdShQ hp
 have h0:i=0→sh=0:=fun hi=>s4 (h4 hi)
 have hz:=rdZ_head hp e G h (rdRow L y) (i:=i)
 rw[rdBody_eq]
 refine J.seq ?_
 show J Tryz.prog β rdHead (rdFo L c i) (rdZ i ph k false G h (rdRow L y)) _
 rcases Nat.lt_or_ge i L with hi|hi
 ·have hi11:i≤11:=by omega
  rw[hz]
  refine pieceO_ok follows toldV_ok hβ (lv:=rdLo) (T:=[22]) (os:=[true]) ?_
  refine(rdHdQ hi11 s1 h0 k c L y G (oB k) (.ofNat k) (.ofNat k) (rB k) h v _).mpr ?_
  unfold rdHdB
  refine need_of (by simpa using hi) ?_
  show J Tryz.prog β (.seq (.block 1 rdMid) rdTail) (rdFo L c i) (mkS (rdHs i sh k v G (oB k) (.ofNat k) (.ofNat k) (rB k) h (rdRow L y))) _
  refine J.seq (J.block ?_)
  rw[rdMid_eq]
  refine J.seq (J.seq ?_)
  refine pieceO_ok follows toldV_ok hβ (lv:=rdLi) (T:=[]) (os:=[]) ?_
  refine(rdZrQ hi11 s1 h0 k c L y G (oB k) (.ofNat k) (.ofNat k) (rB k) h v _).mpr ?_
  unfold rdZrB
  show J Tryz.prog β (.block 2 (.loop rdInner)) (rdFi L c i (.ofNat 0)) (mkS (rdHs i sh k v G (oB k) (.ofNat k) (.ofNat k) (rB k) h (rdRow L y))) _
  refine J.block ?_
  rw[←hz]
  refine(rd_inner hi11 hi hy hβ ⟨ph,k,m,0,h,false⟩ ⟨hp,h3,Nat.zero_le _,(fun hb=>by cases hb),(fun _=>h4),h5⟩).ok _ ?_
  intro ph' k' m' h' b' hp' hm' hb1 hb0 hh'
  show J Tryz.prog β rdRest (rdFo L c i) (rdZ i ph' k' b' G h' (rdRow L y)) _
  rw[rdRest_eq]
  refine pieceL_ok follows (toldQ_ok k' i ph' b') hβ (lv:=rdLs) (T:=[]) (os:=[]) ?_
  refine(rdAs_all hi11 hp' hb1 hb0 c L y G h' _).mpr ?_
  unfold rdAsB
  refine ndH_of (by omega) (ndN_of (ndN_of ?_))
  obtain⟨sh',v',t1,t2,t3,t4,e'⟩:=rdShQ hp'
  rw[e']
  show J Tryz.prog β rdSend (rdFs L c i (rdEnd i (i+1) 3 (rdShM sh' k' v'))) (mkS (rdSv i (rdShM sh' k' v') G (oB k') (.ofNat k') (.ofNat k') (rB k') (h'+1) (dstE 1 h' dustE) (rdRow L y))) _
  refine J.seen (f1:=rdFs L c i (rdEnd i (i+1) 3 (rdShM sh' k' v'))) (st1:=mkS (rdSv i (rdShM sh' k' v') G (oB k') (.ofNat k') (.ofNat k') (rB k') (h'+1) dustE (rdRow L y))) (by unfold rdSv;exact seenH) ?_
  refine rdSe_J hi11 t1 (by unfold rdPos at hp';omega) (fun hs=>(t2 hs).1) t3 hβ (by omega) ?_
  show J Tryz.prog β rdTail (rdFo L c i) (mkS (rdHeap (i+1) (i+1) 2 (rdShM sh' k' v') (G.put i (oB k') (.ofNat k') (rB k')) (oB k') (.ofNat k') (.ofNat k') (rB k') (h'+1+1) (dstE 1 (h'+1) dustE) (rdRow L y) [])) _
  refine J.seen (f1:=rdFo L c i) (st1:=mkS (rdHs (i+1) sh' k' v' (G.put i (oB k') (.ofNat k') (rB k')) (oB k') (.ofNat k') (.ofNat k') (rB k') (h'+1+1) (rdRow L y))) (by unfold rdHs;exact seenH) ?_
  refine pieceO_ok follows toldV_ok hβ (lv:=rdLx) (T:=[]) (os:=[]) ?_
  refine(rdTlQ hi11 t1 k' c L y (G.put i (oB k') (.ofNat k') (rB k')) (oB k') (.ofNat k') (.ofNat k') (rB k') (h'+1+1) v' _).mpr ?_
  unfold rdTlB
  refine .inl ⟨rfl,⟨i+1,ph',k',m',h'+1+1,G.put i (oB k') (.ofNat k') (rB k')⟩,⟨hi,hp',hm',(fun h=>by simp at h),(by show h'+1+1≤41*(i+1)+1;omega)⟩,(by show L-(i+1)<L-i;omega),?_⟩
  show Seen β (rdFo L c (i+1)) _ (rdFo L c (i+1)) (rdZ (i+1) ph' k' false (G.put i (oB k') (.ofNat k') (rB k')) (h'+1+1) (rdRow L y))
  rw[rdZ_head hp' e']
  exact Seen.refl _ _ _
 ·have hiL:i=L:=by omega
  rw[hz]
  refine pieceO_ok follows toldV_ok hβ (lv:=rdLo) (T:=[22]) (os:=[false]) ?_
  refine(rdExQ (by omega) s1 h0 k c L y G (oB k) (.ofNat k) (.ofNat k) (rB k) h v _).mpr ?_
  unfold rdExB
  refine need_of (by simp;omega) ?_
  exact .inr ⟨by simp,by simp,_,_,Seen.refl _ _ _,hK⟩
theorem rd_law{l:List U8}{c:Nat}(hl:l.all (okA U8)=true)(w:World)(hgl:GlA w)(args':Array Value)(hA:PW (TR w (There w)) [tdL l c] args'.toList):
  Calls Tryz.prog 3 args' w fun e w'=>e= .returned (.bool true)∧Below w.heap.size w w':=by
 have hy: ∀i,i<l.length→0≤(fun i=>(l.getD i (Enc.dflt:U8)).v) i∧(fun i=>(l.getD i (Enc.dflt:U8)).v) i<256:=fun i hi=>by
  rw[List.all_eq_true]at hl
  have:=hl (l.getD i Enc.dflt) (by rw[List.getD_eq_getElem?_getD,List.getElem?_eq_getElem hi];exact List.getElem_mem hi)
  exact(okU_iff _).1 this
 refine law_top (C:=toldV) (fuel:=1000) (n:=50) (un:=fun _=>0) (lvs:=fun _=>[0,3,5]) (ex:=exR l.length fun i=>(l.getD i Enc.dflt).v) follows toldV_ok (fun β hβ=> ?_) w args' hA hgl
 show lawE _ _ _ _ _ _ (cnOf 1 (fun _=>[0,3,5])) _ _ [rdSl l.length c] (mkS [some (rdRow l.length fun i=>(l.getD i Enc.dflt).v)]) trueE
 rw[rdBig]
 generalize hyy:(fun i=>(l.getD i (Enc.dflt:U8)).v)=y at hy ⊢
 refine br_of (fun _=>trivial) (fun h=> ?_)
 have hL:l.length≤12:=by simp at h;omega
 generalize l.length=L at hL hy ⊢
 exact⟨LoopJ.seen (rdSeen0 hβ c L y ⟨fun _=>0,fun _=>0,fun _=>0⟩) (rd_loop hL hy hβ ⟨0,0,0,0,1,⟨fun _=>0,fun _=>0,fun _=>0⟩⟩ ⟨Nat.zero_le _,.inl ⟨rfl,rfl,rfl⟩,Nat.zero_le _,(fun _=>rfl),Nat.le_refl _⟩),trivial⟩
end Go.Proofs.YtibobihgolfplaaGreatDoor.Ev
end
