/-
  TopBusy at the head of its loop. (Printed by tools/busy.py.)
-/
import Derived.Test.YtibobihgolfplaaGreatDoorGg
import Derived.Test.YtibobihgolfplaaGreatDoorGh
set_option linter.unusedVariables false
namespace Go.Proofs.YtibobihgolfplaaGreatDoor.Ev
open Go
noncomputable section
def repF{α:Type}(f:Nat→List α):Nat→List α
 |0=>[]
 |n+1=>repF f n++f n
def byO0:AObj:= .cells [.string ⟨#[97]⟩,qi 1,qi 2,qi 0,qi 2,qi 0,qf,qi 0,qi 0,qf,.string ⟨#[98]⟩,qi 1,qi 1,qi 0,qi 1,qi 0,qf,qi 0,qi 0,qf,.string ⟨#[111]⟩,qi 2,qi 2,qi 0,qi 2,qi 1,qf,qi 2,qi 9,qf,.string ⟨#[110]⟩,qi 3,qi 2,qi 0,qi 2,qi 0,qf,qi 0,qi 0,qf,.string ⟨#[120]⟩,qi 3,qi 2,qi 0,qi 2,qi 0,qf,qi 0,qi 0,qf,.string ⟨#[114]⟩,qi 3,qi 5,qi 0,qi 5,qi 0,qf,qi 0,qi 0,qf,.string ⟨#[107]⟩,qi 3,qi 2,qi 3,qi 2,qi 0,qf,qi 0,qi 0,qf] false 10
def byO1:AObj:= .cells [qi 1,qi 2,qi 2,.string ⟨#[110]⟩,qe,qi 3,qi 0,qi 0,qi 0,qf,q0,qi 4,qi 2,qe,qe,qi 0,qi 0,qi 0,qi 0,qf,qs 4 2 2,q0,q0,qe,qi 0,qi 0,q0,qi 1,qi 2,qi 2,.string ⟨#[111]⟩,qe,qi 2,qi 0,qi 0,qi 0,qf,q0,qi 4,qi 2,qe,qe,qi 0,qi 0,qi 0,qi 0,qf,qs 5 2 2,q0,q0,qe,qi 0,qi 0,q0,qi 2,qi 0,qi 0,qe,qe,qi 0,qi 0,qi 0,qi 0,qf,q0,qi 2,qi 1,.string ⟨#[98]⟩,qe,qi 1,qi 0,qi 0,qi 0,qf,q0,qs 6 1 1,q0,qe,qi 0,qi 0,q0,qi 1,qi 2,qi 5,.string ⟨#[114]⟩,qe,qi 5,qi 0,qi 0,qi 0,qf,q0,qi 4,qi 5,qe,qe,qi 0,qi 0,qi 0,qi 0,qf,qs 8 2 2,q0,q0,qe,qi 0,qi 0,q0] false 27
def byO2:AObj:= .cells [qi 2,qi 2,.string ⟨#[110]⟩,qe,qi 3,qi 0,qi 0,qi 0,qf,q0,qi 1,qi 2,qe,qe,qi 0,qi 0,qi 2,qi 1,qf,q0] false 10
def byO3:AObj:= .cells [qi 2,qi 2,.string ⟨#[120]⟩,qe,qi 4,qi 0,qi 0,qi 0,qf,q0,qi 2,qi 2,.string ⟨#[97]⟩,qe,qi 0,qi 0,qi 0,qi 0,qf,q0] false 10
def byO4:AObj:= .cells [qi 1,qi 3,qi 2,.string ⟨#[107]⟩,qe,qi 6,qi 3,qi 0,qi 0,qf,qs 7 1 1,qi 2,qi 2,.string ⟨#[97]⟩,qe,qi 0,qi 0,qi 0,qi 0,qf,q0,q0,q0,qe,qi 0,qi 0,q0] false 27
def byO5:AObj:= .cells [qi 2,qi 2,.string ⟨#[120]⟩,qe,qi 4,qi 0,qi 0,qi 0,qf,q0] false 10
def byO6:AObj:= .cells [qi 2,qi 5,.string ⟨#[114]⟩,qe,qi 5,qi 0,qi 0,qi 0,qf,q0,qi 1,qi 5,qe,qe,qi 0,qi 0,qi 5,qi 0,.float .f64 4602678819172646912,q0] false 10
def byO7:AObj:= .cells [.string ⟨#[97]⟩,qi 1,qi 2,qi 0,qi 2,qi 0,qf,qi 0,qi 0,qf,.string ⟨#[98]⟩,qi 1,qi 1,qi 0,qi 1,qi 0,qf,qi 0,qi 0,qf,.string ⟨#[111]⟩,qi 2,qi 2,qi 0,qi 2,qi 1,qf,qi 2,qi 9,qf,.string ⟨#[110]⟩,qi 3,qi 2,qi 0,qi 2,qi 0,qf,qi 0,qi 0,qf,.string ⟨#[120]⟩,qi 3,qi 2,qi 0,qi 2,qi 0,qf,qi 0,qi 0,qf,.string ⟨#[114]⟩,qi 3,qi 5,qi 0,qi 5,qi 0,qf,qi 0,qi 0,qf,.string ⟨#[107]⟩,qi 3,qi 2,qi 3,qi 2,qi 0,qf,qi 0,qi 0,qf] false 10
def byO8:AObj:= .cells [qi 2,qi 0,qi 3,qi 0,qi 0,qi 0,qf,qi 1,qi 2,qi 0,qi 0,qi 2,qi 1,qf,qi 4,qi 2,qi 0,qi 0,qi 0,qi 0,qf,qi 18,qi 0,qi 3,qi 0,qi 0,qi 0,qf,qi 2,qi 0,qi 4,qi 0,qi 0,qi 0,qf,qi 2,qi 0,qi 0,qi 0,qi 0,qi 0,qf,qi 4,qi 2,qi 0,qi 0,qi 0,qi 0,qf,qi 18,qi 0,qi 2,qi 0,qi 0,qi 0,qf,qi 2,qi 0,qi 1,qi 0,qi 0,qi 0,qf,qi 21,qi 0,qi 13,qi 0,qi 0,qi 0,qf,qi 2,qi 0,qi 0,qi 0,qi 0,qi 0,qf,qi 2,qi 0,qi 4,qi 0,qi 0,qi 0,qf,qi 19,qi 0,qi 6,qi 3,qi 0,qi 0,qf,qi 2,qi 0,qi 5,qi 0,qi 0,qi 0,qf,qi 1,qi 5,qi 0,qi 0,qi 5,qi 0,.float .f64 4602678819172646912,qi 4,qi 5,qi 0,qi 0,qi 0,qi 0,qf,qi 18,qi 0,qi 5,qi 0,qi 0,qi 0,qf,qi 23,qi 0,qi 0,qi 0,qi 0,qi 0,qf] false 7
def byStat(l:List (Option AObj)):List (Option AObj):=some byO0::some byO1::some byO2::some byO3::some byO4::some byO5::some byO6::some byO7::some byO8::l
def byImg(o n:Int)(r:Nat)(k:Int):AObj:= .cells [qi 2,qi 0,qf,qi 1,qi 0,qf,qi 2,.int .i64 o,qf,qi 2,.int .i64 n,qf,qi 2,qi 0,qf,qi 5,qi 0,.float .f64 r,qi 2,qi 0,qf,qi 2,.int .i64 k,qf,qi 2,qi 0,qf] false 3
def byIn:AObj:= .cells [qi 2,qi 0,qf,qi 1,qi 0,qf,qi 2,qi 1,qf,qi 2,qi 0,qf,qi 2,qi 0,qf,qi 5,qi 0,qf,qi 2,qi 0,qf,qi 2,qi 0,qf,qi 2,qi 0,qf] false 3
def bySess0:AObj:= .cells [.bool true,qi 0,q0,.bool false,q0,q0,q0,qi 0,.bool true,qi 0,q0,.bool false,q0,q0,q0,qi 0,.bool false,qi 0,q0,.bool false,q0,q0,q0,qi 0,.bool false,qi 0,q0,.bool false,q0,q0,q0,qi 0] false 8
def byS0(g:AObj):List (Option AObj):=some g::some (.cells [qs 2 7 7,qs 3 4 4,qs 9 7 7,qs 10 18 18,qi 100,qs 11 9 9,qi 0,q0,q0,qi 0,qi 0,.bool true,qi 0,qi 0,qi 0,qi 0,qs 12 4 4,q0,qs 13 9 9,q0,q0,.slice (some ⟨14,0,some 0⟩) 1 7,.map none,.bool false] true 0)::byStat [some byIn,some bySess0,some byIn,some (.row .mine 8 0 1 dustE),some (.map [] 0)]
def byGot(id e:Int):List Value:=[qi 6,.int .i64 id,.int .i64 e,qi 0,qi 0,.bool false,qi 0,qi 0,qi 0,qf,q0,q0]
def byAsk(m b k:Nat):MapEntry:={key:= .agg ⟨[.int .i64 (.ofNat (k%m%2)),.int .i64 (.ofNat (k+1))]⟩,val:= .agg ⟨[qi 2,.int .i64 (.ofNat (k+1)),qi 0,qi 0,qi 0,.bool false,qi 0,qi 0,qi 0,qf,qs (b+2*k) 1 1,qs (b+2*k+1) 1 1]⟩,born:=k}
def byPv(k:Nat):List (Option AObj):=[some (.cells [.string ⟨#[107,91,49,93]⟩] true 1),some (.cells [qi 2,.int .i64 (.ofNat (k+1)),qf] true 3)]
def byFine(k:Nat):MapEntry:={key:= .int .i64 (.ofNat (k+1)),val:= .int .i64 (.ofNat (k+1)),born:=k}
def byC1(i:Nat)(N:Int):AObj:= .cells [qs 2 7 7,qs 3 4 4,qs 9 7 7,qs 10 18 18,qi 100,qs 11 9 9,qi 0,q0,qs 12 9 9,qi 0,qi 0,.bool false,qi 0,qi 0,.int .i64 N,qi 0,qs 13 4 4,q0,qs 15 9 9,qs 16 (i*1) (i*1),qs 17 (i*1) (i*1),.slice (some ⟨18,0,some 0⟩) (1+2*(i*1)) 7,.map (some 19),.bool false] true 0
def byG1(j:Nat):List Value:=byGot (.ofNat (j*1+1)) 0
def byF1(j:Nat):List Value:=[qi 0]
def byK1(i:Nat):Int:=match i with
 |0=>0
 |i+1=> .ofNat (i*1+1)
def byS1(g:AObj)(i:Nat)(o n N:Int)(r:Nat)(e:Nat→Nat→Td):List (Option AObj):=match i with
 |0=>byS0 g
 |i0+1=>(some g::some (byC1 i N)::byStat (some (byImg o n r (byK1 i))::some (byImg o n r (byK1 i))::some (.cells [.bool true,qi 0,qs 14 0 0,.bool false,q0,q0,q0,qi 0,.bool true,qi 0,q0,.bool false,q0,q0,q0,qi 0,.bool false,qi 0,q0,.bool false,q0,q0,q0,qi 0,.bool false,qi 0,q0,.bool false,q0,q0,q0,qi 0] false 8)::some (.cells [] true 1)::some (.cells [qi 2,qi 0,qf,qi 1,qi 0,qf,qi 2,qi 1,qf,qi 2,qi 0,qf,qi 2,qi 0,qf,qi 5,qi 0,qf,qi 2,qi 0,qf,qi 2,qi 0,qf,qi 2,qi 0,qf] false 3)::some (.cells (repF byG1 i) false 12)::[some (.cells (repF byF1 i) false 1)]))++some (.row .mine 8 0 (1+2*(i*1)) e)::some (.map (repF (fun k=>[byAsk 1 20 k]) (i*1)) (i*1))::(repF byPv (i*1)++[some (.map (repF (fun k=>[byFine k]) (i*1)) (i*1))])
def byFr1(x:Int)(s:Value)(i:Nat):AFr:=mkF 198 [(0,.int .u8 x),(1,s),(5,.pointer (some ⟨1,0,none⟩)),(7,.int .i64 (.ofNat (i*1))),(8,.map (some (match i with|0=>15|i+1=>20+2*((i+1)*1)))),(9,.int .i64 (.ofNat i))]
def byC2(i:Nat)(N:Int):AObj:= .cells [qs 2 7 7,qs 3 4 4,qs 9 7 7,qs 10 18 18,qi 100,qs 11 9 9,qi 0,q0,qs 12 9 9,qi 0,qi 0,.bool false,qi 0,qi 0,.int .i64 N,qi 0,qs 13 4 4,q0,qs 16 9 9,qs 17 (i*2) (i*2),qs 18 (i*2) (i*2),.slice (some ⟨19,0,some 0⟩) (1+2*(i*2)) 7,.map (some 20),.bool false] true 0
def byG2(j:Nat):List Value:=byGot (.ofNat (j*2+1)) 0++byGot (.ofNat (j*2+2)) 0
def byF2(j:Nat):List Value:=[qi 0,qi 1]
def byK2(i:Nat):Int:=match i with
 |0=>0
 |i+1=> .ofNat (i*2+2)
def byS2(g:AObj)(i:Nat)(o n N:Int)(r:Nat)(e:Nat→Nat→Td):List (Option AObj):=match i with
 |0=>byS0 g
 |i0+1=>(some g::some (byC2 i N)::byStat (some (byImg o n r (byK2 i))::some (byImg o n r (byK2 i))::some (.cells [.bool true,qi 0,qs 14 0 0,.bool false,q0,q0,q0,qi 0,.bool true,qi 0,qs 15 0 0,.bool false,q0,q0,q0,qi 0,.bool false,qi 0,q0,.bool false,q0,q0,q0,qi 0,.bool false,qi 0,q0,.bool false,q0,q0,q0,qi 0] false 8)::some (.cells [] true 1)::some (.cells [] true 1)::some (.cells [qi 2,qi 0,qf,qi 1,qi 0,qf,qi 2,qi 1,qf,qi 2,qi 0,qf,qi 2,qi 0,qf,qi 5,qi 0,qf,qi 2,qi 0,qf,qi 2,qi 0,qf,qi 2,qi 0,qf] false 3)::some (.cells (repF byG2 i) false 12)::[some (.cells (repF byF2 i) false 1)]))++some (.row .mine 8 0 (1+2*(i*2)) e)::some (.map (repF (fun k=>[byAsk 2 21 k]) (i*2)) (i*2))::(repF byPv (i*2)++[some (.map (repF (fun k=>[byFine k]) (i*2)) (i*2))])
def byFr2(x:Int)(s:Value)(i:Nat):AFr:=mkF 198 [(0,.int .u8 x),(1,s),(5,.pointer (some ⟨1,0,none⟩)),(7,.int .i64 (.ofNat (i*2))),(8,.map (some (match i with|0=>15|i+1=>21+2*((i+1)*2)))),(9,.int .i64 (.ofNat i))]
def byC3(i:Nat)(N:Int):AObj:= .cells [qs 2 7 7,qs 3 4 4,qs 9 7 7,qs 10 18 18,qi 100,qs 11 9 9,qi 0,q0,qs 12 9 9,qi 0,qi 0,.bool false,qi 0,qi 0,.int .i64 N,qi 0,qs 13 4 4,q0,qs 16 9 9,qs 17 (i*3) (i*3),qs 18 (i*3) (i*3),.slice (some ⟨19,0,some 0⟩) (1+2*(i*3)) 7,.map (some 20),.bool false] true 0
def byG3(j:Nat):List Value:=byGot (.ofNat (j*3+1)) 0++byGot (.ofNat (j*3+2)) 0++byGot (.ofNat (j*3+3)) 0
def byF3(j:Nat):List Value:=[qi 0,qi 1,qi 0]
def byK3(i:Nat):Int:=match i with
 |0=>0
 |i+1=> .ofNat (i*3+3)
def byS3(g:AObj)(i:Nat)(o n N:Int)(r:Nat)(e:Nat→Nat→Td):List (Option AObj):=match i with
 |0=>byS0 g
 |i0+1=>(some g::some (byC3 i N)::byStat (some (byImg o n r (byK3 i))::some (byImg o n r (byK3 i))::some (.cells [.bool true,qi 0,qs 14 0 0,.bool false,q0,q0,q0,qi 0,.bool true,qi 0,qs 15 0 0,.bool false,q0,q0,q0,qi 0,.bool false,qi 0,q0,.bool false,q0,q0,q0,qi 0,.bool false,qi 0,q0,.bool false,q0,q0,q0,qi 0] false 8)::some (.cells [] true 1)::some (.cells [] true 1)::some (.cells [qi 2,qi 0,qf,qi 1,qi 0,qf,qi 2,qi 1,qf,qi 2,qi 0,qf,qi 2,qi 0,qf,qi 5,qi 0,qf,qi 2,qi 0,qf,qi 2,qi 0,qf,qi 2,qi 0,qf] false 3)::some (.cells (repF byG3 i) false 12)::[some (.cells (repF byF3 i) false 1)]))++some (.row .mine 8 0 (1+2*(i*3)) e)::some (.map (repF (fun k=>[byAsk 3 21 k]) (i*3)) (i*3))::(repF byPv (i*3)++[some (.map (repF (fun k=>[byFine k]) (i*3)) (i*3))])
def byFr3(x:Int)(s:Value)(i:Nat):AFr:=mkF 198 [(0,.int .u8 x),(1,s),(5,.pointer (some ⟨1,0,none⟩)),(7,.int .i64 (.ofNat (i*3))),(8,.map (some (match i with|0=>15|i+1=>21+2*((i+1)*3)))),(9,.int .i64 (.ofNat i))]
def byC4(i:Nat)(N:Int):AObj:= .cells [qs 2 7 7,qs 3 4 4,qs 9 7 7,qs 10 18 18,qi 100,qs 11 9 9,qi 0,q0,qs 12 9 9,qi 0,qi 0,.bool false,qi 0,qi 0,.int .i64 N,qi 0,qs 13 4 4,q0,qs 16 9 9,qs 17 (i*4) (i*4),qs 18 (i*4) (i*4),.slice (some ⟨19,0,some 0⟩) (1+2*(i*4)) 7,.map (some 20),.bool false] true 0
def byG4(j:Nat):List Value:=byGot (.ofNat (j*4+1)) 0++byGot (.ofNat (j*4+4)) 10++byGot (.ofNat (j*4+3)) 0++byGot (.ofNat (j*4+2)) 0
def byF4(j:Nat):List Value:=[qi 0,qi 1,qi 0,qi 1]
def byK4(i:Nat):Int:=match i with
 |0=>0
 |i+1=> .ofNat (i*4+3)
def byS4(g:AObj)(i:Nat)(o n N:Int)(r:Nat)(e:Nat→Nat→Td):List (Option AObj):=match i with
 |0=>byS0 g
 |i0+1=>(some g::some (byC4 i N)::byStat (some (byImg o n r (byK4 i))::some (byImg o n r (byK4 i))::some (.cells [.bool true,qi 0,qs 14 0 0,.bool false,q0,q0,q0,qi 0,.bool true,qi 0,qs 15 0 0,.bool false,q0,q0,q0,qi 0,.bool false,qi 0,q0,.bool false,q0,q0,q0,qi 0,.bool false,qi 0,q0,.bool false,q0,q0,q0,qi 0] false 8)::some (.cells [] true 1)::some (.cells [] true 1)::some (.cells [qi 2,qi 0,qf,qi 1,qi 0,qf,qi 2,qi 1,qf,qi 2,qi 0,qf,qi 2,qi 0,qf,qi 5,qi 0,qf,qi 2,qi 0,qf,qi 2,qi 0,qf,qi 2,qi 0,qf] false 3)::some (.cells (repF byG4 i) false 12)::[some (.cells (repF byF4 i) false 1)]))++some (.row .mine 8 0 (1+2*(i*4)) e)::some (.map (repF (fun k=>[byAsk 4 21 k]) (i*4)) (i*4))::(repF byPv (i*4)++[some (.map (repF (fun k=>[byFine k]) (i*4)) (i*4))])
def byFr4(x:Int)(s:Value)(i:Nat):AFr:=mkF 198 [(0,.int .u8 x),(1,s),(5,.pointer (some ⟨1,0,none⟩)),(7,.int .i64 (.ofNat (i*4))),(8,.map (some (match i with|0=>15|i+1=>21+2*((i+1)*4)))),(9,.int .i64 (.ofNat i))]
def byC5(i:Nat)(N:Int):AObj:= .cells [qs 2 7 7,qs 3 4 4,qs 9 7 7,qs 10 18 18,qi 100,qs 11 9 9,qi 0,q0,qs 12 9 9,qi 0,qi 0,.bool false,qi 0,qi 0,.int .i64 N,qi 0,qs 13 4 4,q0,qs 16 9 9,qs 17 (i*5) (i*5),qs 18 (i*5) (i*5),.slice (some ⟨19,0,some 0⟩) (1+2*(i*5)) 7,.map (some 20),.bool false] true 0
def byG5(j:Nat):List Value:=byGot (.ofNat (j*5+5)) 10++byGot (.ofNat (j*5+4)) 10++byGot (.ofNat (j*5+1)) 0++byGot (.ofNat (j*5+2)) 0++byGot (.ofNat (j*5+3)) 0
def byF5(j:Nat):List Value:=[qi 0,qi 1,qi 0,qi 1,qi 0]
def byK5(i:Nat):Int:=match i with
 |0=>0
 |i+1=> .ofNat (i*5+3)
def byS5(g:AObj)(i:Nat)(o n N:Int)(r:Nat)(e:Nat→Nat→Td):List (Option AObj):=match i with
 |0=>byS0 g
 |i0+1=>(some g::some (byC5 i N)::byStat (some (byImg o n r (byK5 i))::some (byImg o n r (byK5 i))::some (.cells [.bool true,qi 0,qs 14 0 0,.bool false,q0,q0,q0,qi 0,.bool true,qi 0,qs 15 0 0,.bool false,q0,q0,q0,qi 0,.bool false,qi 0,q0,.bool false,q0,q0,q0,qi 0,.bool false,qi 0,q0,.bool false,q0,q0,q0,qi 0] false 8)::some (.cells [] true 1)::some (.cells [] true 1)::some (.cells [qi 2,qi 0,qf,qi 1,qi 0,qf,qi 2,qi 1,qf,qi 2,qi 0,qf,qi 2,qi 0,qf,qi 5,qi 0,qf,qi 2,qi 0,qf,qi 2,qi 0,qf,qi 2,qi 0,qf] false 3)::some (.cells (repF byG5 i) false 12)::[some (.cells (repF byF5 i) false 1)]))++some (.row .mine 8 0 (1+2*(i*5)) e)::some (.map (repF (fun k=>[byAsk 5 21 k]) (i*5)) (i*5))::(repF byPv (i*5)++[some (.map (repF (fun k=>[byFine k]) (i*5)) (i*5))])
def byFr5(x:Int)(s:Value)(i:Nat):AFr:=mkF 198 [(0,.int .u8 x),(1,s),(5,.pointer (some ⟨1,0,none⟩)),(7,.int .i64 (.ofNat (i*5))),(8,.map (some (match i with|0=>15|i+1=>21+2*((i+1)*5)))),(9,.int .i64 (.ofNat i))]
def byS(m:Nat)(g:AObj)(i:Nat)(o n N:Int)(r:Nat)(e:Nat→Nat→Td):List (Option AObj):=match m with
 |1=>byS1 g i o n N r e
 |2=>byS2 g i o n N r e
 |3=>byS3 g i o n N r e
 |4=>byS4 g i o n N r e
 |5=>byS5 g i o n N r e
 |_=>[]
def byFr(m:Nat)(x:Int)(s:Value)(i:Nat):AFr:=match m with
 |1=>byFr1 x s i
 |2=>byFr2 x s i
 |3=>byFr3 x s i
 |4=>byFr4 x s i
 |5=>byFr5 x s i
 |_=>mkF 0 []
def byK(m i:Nat):Int:=match m with
 |1=>byK1 i
 |2=>byK2 i
 |3=>byK3 i
 |4=>byK4 i
 |5=>byK5 i
 |_=>0
def ndL(N:Int):Nat→Prop→Prop
 |0,K=>K
 |k+1,K=>need (!(bne N N)) (ndL N k K)
def mOf(x:Int):Int:=IntKind.wrap .i64 (IntKind.wrap .i64 (x.tmod 5)+1)
def gOf(x:Int):Int:=IntKind.wrap .i64 (IntKind.wrap .i64 (x.tmod 2)+1)
def ndA(x N:Int):Nat→Nat→Prop→Prop
 |0,k,K=>need (!(decide (Int.ofNat k<mOf x))) K
 |c+1,k,K=>need (decide (Int.ofNat k<mOf x)) (ndL N 2 (ndA x N c (k+1) K))
def ndG(y:Nat→Int)(i L:Nat):Nat→Nat→Prop→Prop
 |0,k,K=>need (Nat.blt i L) (need (Nat.ble 0 (0+i)&&Nat.blt (0+i) L) (need (!(decide (Int.ofNat k<gOf (y (0+i))))) K))
 |c+1,k,K=>need (Nat.blt i L) (need (Nat.ble 0 (0+i)&&Nat.blt (0+i) L) (need (decide (Int.ofNat k<gOf (y (0+i)))) (ndG y i L c (k+1) K)))
def byRow(L:Nat)(y:Nat→Int):AObj:= .row .still 1 0 L fun i _=> .sc (.int .u8 (y i))
def byW(m g:Nat):List Bool:=true::(repF (fun _=>[true]) m++false::(repF (fun _=>[true]) (g+1)++[false]))
def bySl(_:AX):List Nat:=[0,1,5,7,8,9]
def byT:List Nat:=[32,40,71]
def dstN:Nat→Nat→Nat
 |0,h=>h
 |k+1,h=>dstN k h+1
def dstE:Nat→Nat→(Nat→Nat→Td)→Nat→Nat→Td
 |0,_,e=>e
 |k+1,h,e=>fun j q=>mrgT (Nat.blt j (dstN k h)) (dstE k h e (0+j) q) (.sc bad)
end
end Go.Proofs.YtibobihgolfplaaGreatDoor.Ev
