/-
  TopBusy behind its loop: states. (Printed by tools/busy.py.)
-/
import Derived.Test.YtibobihgolfplaaGreatDoorByS
set_option linter.unusedVariables false
namespace Go.Proofs.YtibobihgolfplaaGreatDoor.Ev
open Go
noncomputable section
def byH1:List Value:=[qi 3,qi 0,qi 0,.bool false,qi 0,q0,q0,qs 15 9 9]
def byCl0:List Value:=[qs 2 7 7,qs 3 4 4,qs 9 7 7,qs 10 18 18,qi 100,qs 11 9 9,qi 0,q0,q0,qi 0,qi 0,.bool true,qi 0,qi 0,qi 0,qi 0,qs 12 4 4,q0,qs 13 9 9,q0,q0,qs 14 1 1,.map none,.bool false]
def byH0(g:AObj):List (Option AObj):=some g::some (.cells byCl0 true 0)::byStat [some byIn,some bySess0,some byIn,some (.cells byH1 true 8),some (.cells [qi 2,qi 0,qf,qi 1,qi 0,qf,qi 2,qi 1,qf,qi 2,qi 0,qf,qi 2,qi 0,qf,qi 5,qi 0,qf,qi 2,qi 0,qf,qi 2,qi 0,qf,qi 2,qi 0,qf] false 3),some (.map [] 0)]
def byE1(g:AObj)(i:Nat)(o n N:Int)(r:Nat)(e:Nat→Nat→Td):List (Option AObj):=match i with
 |0=>some g::some (.cells [qs 2 7 7,qs 3 4 4,qs 9 7 7,qs 10 18 18,qi 100,qs 11 9 9,qi 0,q0,q0,qi 0,qi 0,.bool true,qi 0,qi 0,qi 0,qi 0,qs 12 4 4,q0,qs 13 9 9,q0,q0,.slice (some ⟨14,0,some 0⟩) 1 7,.map none,.bool false] true 0)::byStat [some byIn,some bySess0,some byIn,some (.row .mine 8 0 1 dustE)]
 |i0+1=>(some g::some (byC1 i N)::byStat (some (byImg o n r (byK1 i))::some (byImg o n r (byK1 i))::some (.cells [.bool true,qi 0,qs 14 0 0,.bool false,q0,q0,q0,qi 0,.bool true,qi 0,q0,.bool false,q0,q0,q0,qi 0,.bool false,qi 0,q0,.bool false,q0,q0,q0,qi 0,.bool false,qi 0,q0,.bool false,q0,q0,q0,qi 0] false 8)::some (.cells [] true 1)::some (.cells [qi 2,qi 0,qf,qi 1,qi 0,qf,qi 2,qi 1,qf,qi 2,qi 0,qf,qi 2,qi 0,qf,qi 5,qi 0,qf,qi 2,qi 0,qf,qi 2,qi 0,qf,qi 2,qi 0,qf] false 3)::some (.cells (repF byG1 i) false 12)::[some (.cells (repF byF1 i) false 1)]))++some (.row .mine 8 0 (1+2*(i*1)) e)::some (.map (repF (fun k=>[byAsk 1 20 k]) (i*1)) (i*1))::repF byPv (i*1)
def byE2(g:AObj)(i:Nat)(o n N:Int)(r:Nat)(e:Nat→Nat→Td):List (Option AObj):=match i with
 |0=>some g::some (.cells [qs 2 7 7,qs 3 4 4,qs 9 7 7,qs 10 18 18,qi 100,qs 11 9 9,qi 0,q0,q0,qi 0,qi 0,.bool true,qi 0,qi 0,qi 0,qi 0,qs 12 4 4,q0,qs 13 9 9,q0,q0,.slice (some ⟨14,0,some 0⟩) 1 7,.map none,.bool false] true 0)::byStat [some byIn,some bySess0,some byIn,some (.row .mine 8 0 1 dustE)]
 |i0+1=>(some g::some (byC2 i N)::byStat (some (byImg o n r (byK2 i))::some (byImg o n r (byK2 i))::some (.cells [.bool true,qi 0,qs 14 0 0,.bool false,q0,q0,q0,qi 0,.bool true,qi 0,qs 15 0 0,.bool false,q0,q0,q0,qi 0,.bool false,qi 0,q0,.bool false,q0,q0,q0,qi 0,.bool false,qi 0,q0,.bool false,q0,q0,q0,qi 0] false 8)::some (.cells [] true 1)::some (.cells [] true 1)::some (.cells [qi 2,qi 0,qf,qi 1,qi 0,qf,qi 2,qi 1,qf,qi 2,qi 0,qf,qi 2,qi 0,qf,qi 5,qi 0,qf,qi 2,qi 0,qf,qi 2,qi 0,qf,qi 2,qi 0,qf] false 3)::some (.cells (repF byG2 i) false 12)::[some (.cells (repF byF2 i) false 1)]))++some (.row .mine 8 0 (1+2*(i*2)) e)::some (.map (repF (fun k=>[byAsk 2 21 k]) (i*2)) (i*2))::repF byPv (i*2)
def byE3(g:AObj)(i:Nat)(o n N:Int)(r:Nat)(e:Nat→Nat→Td):List (Option AObj):=match i with
 |0=>some g::some (.cells [qs 2 7 7,qs 3 4 4,qs 9 7 7,qs 10 18 18,qi 100,qs 11 9 9,qi 0,q0,q0,qi 0,qi 0,.bool true,qi 0,qi 0,qi 0,qi 0,qs 12 4 4,q0,qs 13 9 9,q0,q0,.slice (some ⟨14,0,some 0⟩) 1 7,.map none,.bool false] true 0)::byStat [some byIn,some bySess0,some byIn,some (.row .mine 8 0 1 dustE)]
 |i0+1=>(some g::some (byC3 i N)::byStat (some (byImg o n r (byK3 i))::some (byImg o n r (byK3 i))::some (.cells [.bool true,qi 0,qs 14 0 0,.bool false,q0,q0,q0,qi 0,.bool true,qi 0,qs 15 0 0,.bool false,q0,q0,q0,qi 0,.bool false,qi 0,q0,.bool false,q0,q0,q0,qi 0,.bool false,qi 0,q0,.bool false,q0,q0,q0,qi 0] false 8)::some (.cells [] true 1)::some (.cells [] true 1)::some (.cells [qi 2,qi 0,qf,qi 1,qi 0,qf,qi 2,qi 1,qf,qi 2,qi 0,qf,qi 2,qi 0,qf,qi 5,qi 0,qf,qi 2,qi 0,qf,qi 2,qi 0,qf,qi 2,qi 0,qf] false 3)::some (.cells (repF byG3 i) false 12)::[some (.cells (repF byF3 i) false 1)]))++some (.row .mine 8 0 (1+2*(i*3)) e)::some (.map (repF (fun k=>[byAsk 3 21 k]) (i*3)) (i*3))::repF byPv (i*3)
def byE4(g:AObj)(i:Nat)(o n N:Int)(r:Nat)(e:Nat→Nat→Td):List (Option AObj):=match i with
 |0=>some g::some (.cells [qs 2 7 7,qs 3 4 4,qs 9 7 7,qs 10 18 18,qi 100,qs 11 9 9,qi 0,q0,q0,qi 0,qi 0,.bool true,qi 0,qi 0,qi 0,qi 0,qs 12 4 4,q0,qs 13 9 9,q0,q0,.slice (some ⟨14,0,some 0⟩) 1 7,.map none,.bool false] true 0)::byStat [some byIn,some bySess0,some byIn,some (.row .mine 8 0 1 dustE)]
 |i0+1=>(some g::some (byC4 i N)::byStat (some (byImg o n r (byK4 i))::some (byImg o n r (byK4 i))::some (.cells [.bool true,qi 0,qs 14 0 0,.bool false,q0,q0,q0,qi 0,.bool true,qi 0,qs 15 0 0,.bool false,q0,q0,q0,qi 0,.bool false,qi 0,q0,.bool false,q0,q0,q0,qi 0,.bool false,qi 0,q0,.bool false,q0,q0,q0,qi 0] false 8)::some (.cells [] true 1)::some (.cells [] true 1)::some (.cells [qi 2,qi 0,qf,qi 1,qi 0,qf,qi 2,qi 1,qf,qi 2,qi 0,qf,qi 2,qi 0,qf,qi 5,qi 0,qf,qi 2,qi 0,qf,qi 2,qi 0,qf,qi 2,qi 0,qf] false 3)::some (.cells (repF byG4 i) false 12)::[some (.cells (repF byF4 i) false 1)]))++some (.row .mine 8 0 (1+2*(i*4)) e)::some (.map (repF (fun k=>[byAsk 4 21 k]) (i*4)) (i*4))::repF byPv (i*4)
def byE5(g:AObj)(i:Nat)(o n N:Int)(r:Nat)(e:Nat→Nat→Td):List (Option AObj):=match i with
 |0=>some g::some (.cells [qs 2 7 7,qs 3 4 4,qs 9 7 7,qs 10 18 18,qi 100,qs 11 9 9,qi 0,q0,q0,qi 0,qi 0,.bool true,qi 0,qi 0,qi 0,qi 0,qs 12 4 4,q0,qs 13 9 9,q0,q0,.slice (some ⟨14,0,some 0⟩) 1 7,.map none,.bool false] true 0)::byStat [some byIn,some bySess0,some byIn,some (.row .mine 8 0 1 dustE)]
 |i0+1=>(some g::some (byC5 i N)::byStat (some (byImg o n r (byK5 i))::some (byImg o n r (byK5 i))::some (.cells [.bool true,qi 0,qs 14 0 0,.bool false,q0,q0,q0,qi 0,.bool true,qi 0,qs 15 0 0,.bool false,q0,q0,q0,qi 0,.bool false,qi 0,q0,.bool false,q0,q0,q0,qi 0,.bool false,qi 0,q0,.bool false,q0,q0,q0,qi 0] false 8)::some (.cells [] true 1)::some (.cells [] true 1)::some (.cells [qi 2,qi 0,qf,qi 1,qi 0,qf,qi 2,qi 1,qf,qi 2,qi 0,qf,qi 2,qi 0,qf,qi 5,qi 0,qf,qi 2,qi 0,qf,qi 2,qi 0,qf,qi 2,qi 0,qf] false 3)::some (.cells (repF byG5 i) false 12)::[some (.cells (repF byF5 i) false 1)]))++some (.row .mine 8 0 (1+2*(i*5)) e)::some (.map (repF (fun k=>[byAsk 5 21 k]) (i*5)) (i*5))::repF byPv (i*5)
def byE(m:Nat)(g:AObj)(i:Nat)(o n N:Int)(r:Nat)(e:Nat→Nat→Td):List (Option AObj):=match m with
 |1=>byE1 g i o n N r e
 |2=>byE2 g i o n N r e
 |3=>byE3 g i o n N r e
 |4=>byE4 g i o n N r e
 |5=>byE5 g i o n N r e
 |_=>[]
def byMp(m i:Nat):Nat:=match i with
 |0=>15
 |i+1=>(match m with
  |1=>20+2*((i+1)*1)
  |m=>21+2*((i+1)*m))
def byF8(m L:Nat)(z:Int):AFr:=mkF 198 [(5,.pointer (some ⟨1,0,none⟩)),(8,.map (some (byMp m L))),(13,.int .i64 0),(14,.int .i64 z),(15,.int .i64 0)]
def byF9(m L:Nat):AFr:=mkF 198 [(5,.pointer (some ⟨1,0,none⟩)),(13,.int .i64 (byK m L))]
def byLv(b:Nat):List Nat:=cond (Nat.beq b 0) [0,1,5,7,8,9] [5,8,13,14,15]
def bySl9(_:AX):List Nat:=[5,13]
end
end Go.Proofs.YtibobihgolfplaaGreatDoor.Ev
