/-
  What has to hold: printed by the evaluator.
-/
import Derived.Test.YtachglcffimmeaaGreatR32
import Derived.Test.YtachglcffimmeaaGreatR30
set_option linter.unusedVariables false
set_option maxRecDepth 1000000
set_option linter.unusedSimpArgs false
namespace Go.Proofs.YtachglcffimmeaaGreat.Ev
open Go Go.Proofs Go.RowKit
def RfO(L:List U8)(n c:Nat)(q:Bool):AObj:= .cells [.slice (some ⟨0,0,some (L.length-n)⟩) n c,.bool q] true 0
def slH(b:Nat):List Nat:=cond (Nat.beq b 0) [0,2,4,5,6] [0,2,4,5,7]
def lvH(b:Nat):AX→List Nat:=fun x=>match x with
 | .exit _=>[0,2,4,5]
 |_=>slH b
def GTx(L:List U8)(c:Nat):AFr:=mkF 105 [(0,.slice (some ⟨0,0,some 0⟩) L.length c),(2,.pointer (some ⟨1,0,none⟩)),(4,.pointer (some ⟨2,0,none⟩)),(5,.pointer (some ⟨3,0,none⟩))]
def GT1(L:List U8)(c:Nat)(k:Int):AFr:=mkF 105 [(0,.slice (some ⟨0,0,some 0⟩) L.length c),(2,.pointer (some ⟨1,0,none⟩)),(4,.pointer (some ⟨2,0,none⟩)),(5,.pointer (some ⟨3,0,none⟩)),(6,.int .u64 k)]
def GT2(L:List U8)(c:Nat)(k:Int):AFr:=mkF 105 [(0,.slice (some ⟨0,0,some 0⟩) L.length c),(2,.pointer (some ⟨1,0,none⟩)),(4,.pointer (some ⟨2,0,none⟩)),(5,.pointer (some ⟨3,0,none⟩)),(7,.int .u64 k)]
def HS1(L:List U8)(n c:Nat)(q:Bool)(m:Ms):ASt:=mkS [some (rowO .look L),some (.cells (msCs zMs nilV nilV) true 0),some (RfO L n c q),some (.cells (msCs m (.slice (some ⟨4,0,some 0⟩) m.ps.length 1) nilV) true 0),some (rowO .mine m.ps)]
def HS2(L:List U8)(n c:Nat)(q:Bool)(m:Ms):ASt:=mkS [some (rowO .look L),some (.cells (msCs zMs nilV nilV) true 0),some (RfO L n c q),some (.cells (msCs m (.slice (some ⟨4,0,some 0⟩) m.ps.length 1) (.slice (some ⟨5,0,some 0⟩) m.vs.length 1)) true 0),some (rowO .mine m.ps),some (rowO .mine m.vs)]
def exH(L:List U8)(c:Nat)(Gb:Nat→Nat→Prop)(G1 G2:Ms→Nat→Prop):Nat→Kt→Prop:=fun b K=>cond (Nat.beq b 0) ((∀(m:Ms) (n d:Nat),Gb n d→K (.exit 0) (GTx L c) (HS1 L n d true m))∧(∀(m:Ms) (n:Nat),G1 m n→K (.exit 0) (GTx L c) (HS1 L n 0 false m))) ((∀(m:Ms) (n d:Nat),Gb n d→K (.exit 2) (GTx L c) (HS2 L n d true m))∧(∀(m:Ms) (n:Nat),G2 m n→K (.exit 2) (GTx L c) (HS2 L n 0 false m)))
def TmF(L:List U8)(Gb:Nat→Nat→Prop)(G2:Ms→Nat→Prop)(K:AE→List (Option AObj)→Prop):Prop:=
 (∀(m:Ms) (n d:Nat),Gb n d→K (AE.returned (Value.tuple (Array.mk [Value.agg (Array.mk [Value.int IntKind.i64 (0:Int),Value.int IntKind.i64 (0:Int),Value.int
 IntKind.i64 (0:Int),Value.int IntKind.i64 (0:Int),Value.int IntKind.i64 (0:Int),Value.bool false,Value.int IntKind.i64 (0:Int),Value.int IntKind.i64 (0:Int),
 Value.int IntKind.i64 (0:Int),Value.float FloatKind.f64 0,Value.slice none 0 0,Value.slice none 0 0]),Value.bool false]))) [some (AObj.row Rk.look 1 0 (List.length L) (encL
 L))])∧ ∀(m:Ms) (n:Nat),G2 m n→br (Int.ofNat (List.length L)==(0:Int)) (K (AE.returned (Value.tuple (Array.mk [Value.agg (Array.mk [Value.int IntKind.i64 (0:Int),
 Value.int IntKind.i64 (0:Int),Value.int IntKind.i64 (0:Int),Value.int IntKind.i64 (0:Int),Value.int IntKind.i64 (0:Int),Value.bool false,Value.int IntKind.i64 (0:
 Int),Value.int IntKind.i64 (0:Int),Value.int IntKind.i64 (0:Int),Value.float FloatKind.f64 0,Value.slice none 0 0,Value.slice none 0 0]),Value.bool false]))) [some
 (AObj.row Rk.look 1 0 (List.length L) (encL L))]) (need (true&&Nat.ble (0+List.length (Ms.ps m)) (List.length (Ms.ps m))) (need (true&&Nat.ble (0+List.length (Ms.vs m))
 (List.length (Ms.vs m))) (need (okS1 Ms (fun x=>true) [Ta.agg [Td.sc (Value.int IntKind.i64 (Ms.k m)),Td.sc (Value.int IntKind.i64 (Ms.id m)),Td.sc (Value.int IntKind.i64
 (Ms.er m)),Td.sc (Value.int IntKind.i64 (Ms.n m)),Td.sc (Value.int IntKind.i64 (Ms.sq m)),Td.sc (Value.bool (Ms.lo m)),Td.sc (Value.int IntKind.i64 (Ms.ev m)),Td.sc
 (Value.int IntKind.i64 (Vl.k (Ms.bd m))),Td.sc (Value.int IntKind.i64 (Vl.i (Ms.bd m))),Td.sc (Value.float FloatKind.f64 (Vl.f (Ms.bd m))),Td.fr 1 (List.length (Ms.ps m)) 1 fun
 i=>encL (Ms.ps m) (0+i),Td.fr 3 (List.length (Ms.vs m)) 1 fun i=>encL (Ms.vs m) (0+i)]]) (need (true&&Nat.ble (0+List.length (pmL (Enc.dec (nthT [Td.sc (Value.int
 IntKind.i64 (Ms.k m)),Td.sc (Value.int IntKind.i64 (Ms.id m)),Td.sc (Value.int IntKind.i64 (Ms.er m)),Td.sc (Value.int IntKind.i64 (Ms.n m)),Td.sc (Value.int IntKind.i64
 (Ms.sq m)),Td.sc (Value.bool (Ms.lo m)),Td.sc (Value.int IntKind.i64 (Ms.ev m)),Td.sc (Value.int IntKind.i64 (Vl.k (Ms.bd m))),Td.sc (Value.int IntKind.i64 (Vl.i (Ms.bd m))),
 Td.sc (Value.float FloatKind.f64 (Vl.f (Ms.bd m))),Td.fr 1 (List.length (Ms.ps m)) 1 fun i=>encL (Ms.ps m) (0+i),Td.fr 3 (List.length (Ms.vs m)) 1 fun i=>encL (Ms.vs m) (0
 +i)])))) (List.length (pmL (Enc.dec (nthT [Td.sc (Value.int IntKind.i64 (Ms.k m)),Td.sc (Value.int IntKind.i64 (Ms.id m)),Td.sc (Value.int IntKind.i64 (Ms.er m)),Td.sc
 (Value.int IntKind.i64 (Ms.n m)),Td.sc (Value.int IntKind.i64 (Ms.sq m)),Td.sc (Value.bool (Ms.lo m)),Td.sc (Value.int IntKind.i64 (Ms.ev m)),Td.sc (Value.int IntKind.i64
 (Vl.k (Ms.bd m))),Td.sc (Value.int IntKind.i64 (Vl.i (Ms.bd m))),Td.sc (Value.float FloatKind.f64 (Vl.f (Ms.bd m))),Td.fr 1 (List.length (Ms.ps m)) 1 fun i=>encL (Ms.ps m) (0
 +i),Td.fr 3 (List.length (Ms.vs m)) 1 fun i=>encL (Ms.vs m) (0+i)]))))) (need (allB (List.length (pmL (Enc.dec (nthT [Td.sc (Value.int IntKind.i64 (Ms.k m)),Td.sc
 (Value.int IntKind.i64 (Ms.id m)),Td.sc (Value.int IntKind.i64 (Ms.er m)),Td.sc (Value.int IntKind.i64 (Ms.n m)),Td.sc (Value.int IntKind.i64 (Ms.sq m)),Td.sc (Value.bool
 (Ms.lo m)),Td.sc (Value.int IntKind.i64 (Ms.ev m)),Td.sc (Value.int IntKind.i64 (Vl.k (Ms.bd m))),Td.sc (Value.int IntKind.i64 (Vl.i (Ms.bd m))),Td.sc (Value.float
 FloatKind.f64 (Vl.f (Ms.bd m))),Td.fr 1 (List.length (Ms.ps m)) 1 fun i=>encL (Ms.ps m) (0+i),Td.fr 3 (List.length (Ms.vs m)) 1 fun i=>encL (Ms.vs m) (0+i)])))) fun j=>
 encL (pmL (Enc.dec (nthT [Td.sc (Value.int IntKind.i64 (Ms.k m)),Td.sc (Value.int IntKind.i64 (Ms.id m)),Td.sc (Value.int IntKind.i64 (Ms.er m)),Td.sc (Value.int IntKind.i64
 (Ms.n m)),Td.sc (Value.int IntKind.i64 (Ms.sq m)),Td.sc (Value.bool (Ms.lo m)),Td.sc (Value.int IntKind.i64 (Ms.ev m)),Td.sc (Value.int IntKind.i64 (Vl.k (Ms.bd m))),Td.sc
 (Value.int IntKind.i64 (Vl.i (Ms.bd m))),Td.sc (Value.float FloatKind.f64 (Vl.f (Ms.bd m))),Td.fr 1 (List.length (Ms.ps m)) 1 fun i=>encL (Ms.ps m) (0+i),Td.fr 3
 (List.length (Ms.vs m)) 1 fun i=>encL (Ms.vs m) (0+i)]))) (0+j)) (need (true&&Nat.ble (0+List.length L) (List.length L)) (need (allB (List.length L) fun j=>encL L (0+
 j)) (br (!List.map (fun j=>x9_ (encL (pmL (Enc.dec (nthT [Td.sc (Value.int IntKind.i64 (Ms.k m)),Td.sc (Value.int IntKind.i64 (Ms.id m)),Td.sc (Value.int IntKind.i64 (Ms.er
 m)),Td.sc (Value.int IntKind.i64 (Ms.n m)),Td.sc (Value.int IntKind.i64 (Ms.sq m)),Td.sc (Value.bool (Ms.lo m)),Td.sc (Value.int IntKind.i64 (Ms.ev m)),Td.sc (Value.int
 IntKind.i64 (Vl.k (Ms.bd m))),Td.sc (Value.int IntKind.i64 (Vl.i (Ms.bd m))),Td.sc (Value.float FloatKind.f64 (Vl.f (Ms.bd m))),Td.fr 1 (List.length (Ms.ps m)) 1 fun i=>encL
 (Ms.ps m) (0+i),Td.fr 3 (List.length (Ms.vs m)) 1 fun i=>encL (Ms.vs m) (0+i)]))) (0+j) 0)) (List.range (List.length (pmL (Enc.dec (nthT [Td.sc (Value.int IntKind.i64
 (Ms.k m)),Td.sc (Value.int IntKind.i64 (Ms.id m)),Td.sc (Value.int IntKind.i64 (Ms.er m)),Td.sc (Value.int IntKind.i64 (Ms.n m)),Td.sc (Value.int IntKind.i64 (Ms.sq m)),Td.sc
 (Value.bool (Ms.lo m)),Td.sc (Value.int IntKind.i64 (Ms.ev m)),Td.sc (Value.int IntKind.i64 (Vl.k (Ms.bd m))),Td.sc (Value.int IntKind.i64 (Vl.i (Ms.bd m))),Td.sc (Value.float
 FloatKind.f64 (Vl.f (Ms.bd m))),Td.fr 1 (List.length (Ms.ps m)) 1 fun i=>encL (Ms.ps m) (0+i),Td.fr 3 (List.length (Ms.vs m)) 1 fun i=>encL (Ms.vs m) (0+i)])))))==
 List.map (fun j=>x9_ (encL L (0+j) 0)) (List.range (List.length L))) (K (AE.returned (Value.tuple (Array.mk [Value.agg (Array.mk [Value.int IntKind.i64 (0:Int),Value.int
 IntKind.i64 (0:Int),Value.int IntKind.i64 (0:Int),Value.int IntKind.i64 (0:Int),Value.int IntKind.i64 (0:Int),Value.bool false,Value.int IntKind.i64 (0:Int),
 Value.int IntKind.i64 (0:Int),Value.int IntKind.i64 (0:Int),Value.float FloatKind.f64 0,Value.slice none 0 0,Value.slice none 0 0]),Value.bool false]))) [some (AObj.row
 Rk.look 1 0 (List.length L) (encL L))]) (K (AE.returned (Value.tuple (Array.mk [Value.agg (Array.mk [Value.int IntKind.i64 (Ms.k m),Value.int IntKind.i64 (Ms.id m),Value.int
 IntKind.i64 (Ms.er m),Value.int IntKind.i64 (Ms.n m),Value.int IntKind.i64 (Ms.sq m),Value.bool (Ms.lo m),Value.int IntKind.i64 (Ms.ev m),Value.int IntKind.i64 (Vl.k (Ms.bd
 m)),Value.int IntKind.i64 (Vl.i (Ms.bd m)),Value.float FloatKind.f64 (Vl.f (Ms.bd m)),Value.slice (some (Addr.mk 1 0 (some 0))) (List.length (Ms.ps m)) 1,Value.slice (some
 (Addr.mk 2 0 (some 0))) (List.length (Ms.vs m)) 1]),Value.bool true]))) [some (AObj.row Rk.look 1 0 (List.length L) (encL L)),some (AObj.row Rk.mine 1 0 (List.length (Ms.ps m))
 (encL (Ms.ps m))),some (AObj.row Rk.mine 3 0 (List.length (Ms.vs m)) (encL (Ms.vs m)))])))))))))
def TmR(L:List U8)(c:Nat)(Gb:Nat→Nat→Prop)(G1 G2:Ms→Nat→Prop)(β:Bs)(K:AE→List (Option AObj)→Prop):Prop:=
 (∀(m:Ms) (n d:Nat),Gb n d→need (rfB (some (AObj.row Rk.look 1 0 (List.length L) (encL L))) (List.length L-n) n d) (LoopJ Tryz.prog β (exH L c Gb G1 G2) 2 (a5_ Tryz.prog
 11 2) (mkF 105 [(0,Value.slice (some (Addr.mk 0 0 (some 0))) (List.length L) c),(2,Value.pointer (some (Addr.mk 1 0 none))),(4,
 Value.pointer (some (Addr.mk 2 0 none))),(5,Value.pointer (some (Addr.mk 3 0 none))),(7,Value.int IntKind.u64 (0:Int))]) (mkS [some (AObj.row Rk.look 1 0 (List.length L)
 (encL L)),some (AObj.cells [Value.int IntKind.i64 (0:Int),Value.int IntKind.i64 (0:Int),Value.int IntKind.i64 (0:Int),Value.int IntKind.i64 (0:Int),Value.int
 IntKind.i64 (0:Int),Value.bool false,Value.int IntKind.i64 (0:Int),Value.int IntKind.i64 (0:Int),Value.int IntKind.i64 (0:Int),Value.float FloatKind.f64 0,
 Value.slice none 0 0,Value.slice none 0 0] true 0),some (AObj.cells [Value.slice (some (Addr.mk 0 0 (some (List.length (rowL U8 (rowN (some (AObj.row Rk.look 1 0 (List.length L)
 (encL L)))) (some (AObj.row Rk.look 1 0 (List.length L) (encL L))))-n)))) n d,Value.bool true] true 0),some (AObj.cells [Value.int IntKind.i64 (Ms.k m),Value.int IntKind.i64
 (Ms.id m),Value.int IntKind.i64 (Ms.er m),Value.int IntKind.i64 (Ms.n m),Value.int IntKind.i64 (Ms.sq m),Value.bool (Ms.lo m),Value.int IntKind.i64 (Ms.ev m),Value.int
 IntKind.i64 (Vl.k (Ms.bd m)),Value.int IntKind.i64 (Vl.i (Ms.bd m)),Value.float FloatKind.f64 (Vl.f (Ms.bd m)),Value.slice (some (Addr.mk 4 0 (some 0))) (List.length (Ms.ps m))
 1,Value.slice none 0 0] true 0),some (AObj.row Rk.mine 1 0 (List.length (Ms.ps m)) (encL (Ms.ps m)))])∧TmF L Gb G2 K))∧ ∀(m:Ms) (n:Nat),G1 m n→br (Nat.blt n 1) (need
 (rfB (some (AObj.row Rk.look 1 0 (List.length L) (encL L))) (List.length L-n) n 0) (LoopJ Tryz.prog β (exH L c Gb G1 G2) 2 (a5_ Tryz.prog
 11 2) (mkF 105 [(0,Value.slice (some (Addr.mk 0 0 (some 0))) (List.length L) c),(2,Value.pointer (some (Addr.mk 1 0 none))),(4,
 Value.pointer (some (Addr.mk 2 0 none))),(5,Value.pointer (some (Addr.mk 3 0 none))),(7,Value.int IntKind.u64 (0:Int))]) (mkS [some (AObj.row Rk.look 1 0 (List.length L)
 (encL L)),some (AObj.cells [Value.int IntKind.i64 (0:Int),Value.int IntKind.i64 (0:Int),Value.int IntKind.i64 (0:Int),Value.int IntKind.i64 (0:Int),Value.int
 IntKind.i64 (0:Int),Value.bool false,Value.int IntKind.i64 (0:Int),Value.int IntKind.i64 (0:Int),Value.int IntKind.i64 (0:Int),Value.float FloatKind.f64 0,
 Value.slice none 0 0,Value.slice none 0 0] true 0),some (AObj.cells [Value.slice (some (Addr.mk 0 0 (some (List.length (rowL U8 (rowN (some (AObj.row Rk.look 1 0 (List.length L)
 (encL L)))) (some (AObj.row Rk.look 1 0 (List.length L) (encL L))))-n)))) n 0,Value.bool true] true 0),some (AObj.cells [Value.int IntKind.i64 (Ms.k m),Value.int IntKind.i64
 (Ms.id m),Value.int IntKind.i64 (Ms.er m),Value.int IntKind.i64 (Ms.n m),Value.int IntKind.i64 (Ms.sq m),Value.bool (Ms.lo m),Value.int IntKind.i64 (Ms.ev m),Value.int
 IntKind.i64 (Vl.k (Ms.bd m)),Value.int IntKind.i64 (Vl.i (Ms.bd m)),Value.float FloatKind.f64 (Vl.f (Ms.bd m)),Value.slice (some (Addr.mk 4 0 (some 0))) (List.length (Ms.ps m))
 1,Value.slice none 0 0] true 0),some (AObj.row Rk.mine 1 0 (List.length (Ms.ps m)) (encL (Ms.ps m)))])∧TmF L Gb G2 K)) (need (rfB (some (AObj.row Rk.look 1 0 (List.length L)
 (encL L))) (List.length L-n) n 0) (LoopJ Tryz.prog β (exH L c Gb G1 G2) 2 (a5_ Tryz.prog 11 2) (mkF 105 [(0,Value.slice (some (Addr.mk 0
 0 (some 0))) (List.length L) c),(2,Value.pointer (some (Addr.mk 1 0 none))),(4,Value.pointer (some (Addr.mk 2 0 none))),(5,Value.pointer (some (Addr.mk 3 0 none))),(7,
 Value.int IntKind.u64 (Int.ofNat (beN (rowL U8 (rowN (some (AObj.row Rk.look 1 0 (List.length L) (encL L)))) (some (AObj.row Rk.look 1 0 (List.length L) (encL L)))) (List.length
 (rowL U8 (rowN (some (AObj.row Rk.look 1 0 (List.length L) (encL L)))) (some (AObj.row Rk.look 1 0 (List.length L) (encL L))))-n) 1)))]) (mkS [some (AObj.row Rk.look 1 0
 (List.length L) (encL L)),some (AObj.cells [Value.int IntKind.i64 (0:Int),Value.int IntKind.i64 (0:Int),Value.int IntKind.i64 (0:Int),Value.int IntKind.i64 (0:Int),
 Value.int IntKind.i64 (0:Int),Value.bool false,Value.int IntKind.i64 (0:Int),Value.int IntKind.i64 (0:Int),Value.int IntKind.i64 (0:Int),Value.float FloatKind.f64 0,
 Value.slice none 0 0,Value.slice none 0 0] true 0),some (AObj.cells [Value.slice (some (Addr.mk 0 0 (some (List.length (rowL U8 (rowN (some (AObj.row Rk.look 1 0 (List.length L)
 (encL L)))) (some (AObj.row Rk.look 1 0 (List.length L) (encL L))))-(n-1))))) (n-1) 0,Value.bool false] true 0),some (AObj.cells [Value.int IntKind.i64 (Ms.k m),Value.int
 IntKind.i64 (Ms.id m),Value.int IntKind.i64 (Ms.er m),Value.int IntKind.i64 (Ms.n m),Value.int IntKind.i64 (Ms.sq m),Value.bool (Ms.lo m),Value.int IntKind.i64 (Ms.ev m),
 Value.int IntKind.i64 (Vl.k (Ms.bd m)),Value.int IntKind.i64 (Vl.i (Ms.bd m)),Value.float FloatKind.f64 (Vl.f (Ms.bd m)),Value.slice (some (Addr.mk 4 0 (some 0))) (List.length
 (Ms.ps m)) 1,Value.slice none 0 0] true 0),some (AObj.row Rk.mine 1 0 (List.length (Ms.ps m)) (encL (Ms.ps m)))])∧TmF L Gb G2 K))
theorem ape_(L:List U8)(c:Nat)(Gb:Nat→Nat→Prop)(G1 G2:Ms→Nat→Prop)(β:Bs)(K:AE→List (Option AObj)→Prop):lawE Tryz.prog toldZ4 100 20 β (fun _=>0) (cnOf 1 slH) (exH L c Gb G1 G2) 11 [.slice (some ⟨0,0,some 0⟩) L.length c] (mkS [some (rowO .look L)]) (outC 1 K)=
 (fun(z1:AObj) (z2 z13 z15 z18 z26 z27 z28 z29:Nat) (z11:Code)=>((fun(z3:AObj) (z4:AFr) (z39:Nat)=>((fun(z0:List U8)=>((fun(z6 z14 z20 z23 z30 z32 z33 z34 z35 z36 z37:Nat) (z38:Bool)=>((fun(z7 z8 z10 z17 z22 z24 z25:Bool) (z9 z12 z16 z19 z21 z31:Int)=>((fun(z5:AObj)=>(br (Nat.blt z28 1) (need (rfB (some z3) 0 z28 c) (need z17 (need z17 (need z17 (need z17 (need z17 (need z17 (need z17 (need z17 (LoopJ Tryz.prog β (exH L c Gb G1 G2) 0 z11 z4 (mkS [some z3,some z1,some (.cells [.slice (some (Addr.mk 0 0 (some z32))) z28 c,.bool true] true 0),some z1])∧TmR L c Gb G1 G2 β K)))))))))) (need (rfB (some z3) 0 z28 c) (br (Nat.blt z29 2) (need z7 (need z7 (need z7 (need z7 (need z7 (need z7 (need z7 (need z7 (LoopJ Tryz.prog β (exH L c Gb G1 G2) 0 z11 z4 (mkS [some z3,some z1,some (.cells [.slice (some (Addr.mk 0 0 (some z33))) z29 0,.bool true] true 0),some (.cells [.int .i64 z9,.int .i64 (0:Int),.int .i64 (0:Int),.int .i64 (0:Int),.int .i64 (0:Int),.bool false,.int .i64 (0:Int),.int .i64 (0:Int),.int .i64 (0:Int),.float .f64 0,.slice none 0 0,.slice none 0 0] true 0)])∧TmR L c Gb G1 G2 β K))))))))) (need z7 (br (Nat.blt z27 2) (need z8 (need z8 (need z8 (need z8 (need z8 (need z8 (need z8 (LoopJ Tryz.prog β (exH L c Gb G1 G2) 0 z11 z4 (mkS [some z3,some z1,some (.cells [.slice (some (Addr.mk 0 0 (some z34))) z27 0,.bool true] true 0),some (.cells [.int .i64 z9,.int .i64 z12,.int .i64 (0:Int),.int .i64 (0:Int),.int .i64 (0:Int),.bool false,.int .i64 (0:Int),.int .i64 (0:Int),.int .i64 (0:Int),.float .f64 0,.slice none 0 0,.slice none 0 0] true 0)])∧TmR L c Gb G1 G2 β K)))))))) (need z8 (br (Nat.blt z26 2) (need z10 (need z10 (need z10 (need z10 (need z10 (need z10 (LoopJ Tryz.prog β (exH L c Gb G1 G2) 0 z11 z4 (mkS [some z3,some z1,some (.cells [.slice (some (Addr.mk 0 0 (some z35))) z26 0,.bool true] true 0),some (.cells [.int .i64 z9,.int .i64 z12,.int .i64 (0:Int),.int .i64 z16,.int .i64 (0:Int),.bool false,.int .i64 (0:Int),.int .i64 (0:Int),.int .i64 (0:Int),.float .f64 0,.slice none 0 0,.slice none 0 0] true 0)])∧TmR L c Gb G1 G2 β K))))))) (need z10 (br (Nat.blt z13 1) (need z22 (need z22 (need z22 (need z22 (need z22 (LoopJ Tryz.prog β (exH L c Gb G1 G2) 0 z11 z4 (mkS [some z3,some z1,some (.cells [.slice (some (Addr.mk 0 0 (some z36))) z13 0,.bool true] true 0),some (.cells [.int .i64 z9,.int .i64 z12,.int .i64 (0:Int),.int .i64 z16,.int .i64 z19,.bool false,.int .i64 (0:Int),.int .i64 (0:Int),.int .i64 (0:Int),.float .f64 0,.slice none 0 0,.slice none 0 0] true 0)])∧TmR L c Gb G1 G2 β K)))))) (need z22 (br (Nat.blt z15 1) (need z24 (need z24 (need z24 (need z24 (LoopJ Tryz.prog β (exH L c Gb G1 G2) 0 z11 z4 (mkS [some z3,some z1,some (.cells [.slice (some (Addr.mk 0 0 (some z30))) z15 0,.bool true] true 0),some (.cells [.int .i64 z9,.int .i64 z12,.int .i64 z21,.int .i64 z16,.int .i64 z19,.bool false,.int .i64 (0:Int),.int .i64 (0:Int),.int .i64 (0:Int),.float .f64 0,.slice none 0 0,.slice none 0 0] true 0)])∧TmR L c Gb G1 G2 β K))))) (need z24 (br (Nat.blt z18 8) (need z25 (need z25 (need z25 (LoopJ Tryz.prog β (exH L c Gb G1 G2) 0 z11 z4 (mkS [some z3,some z1,some (.cells [.slice (some (Addr.mk 0 0 (some z37))) z18 0,.bool true] true 0),some (.cells [.int .i64 z9,.int .i64 z12,.int .i64 z21,.int .i64 z16,.int .i64 z19,.bool (Int.ofNat (beN z0 z30 1) !=(0:Int)),.int .i64 (0:Int),.int .i64 (0:Int),.int .i64 (0:Int),.float .f64 0,.slice none 0 0,.slice none 0 0] true 0)])∧TmR L c Gb G1 G2 β K)))) (need z25 (br (Nat.blt z2 1||bif true&&fkF z0 z2==(0:Int)then false else frF z0 z2||(fsF z0 z2|| !tkQ (fkF z0 z2) (fpF z0 z2))) (need z38 (need (rfB (some z3) z20 z23 z39) (LoopJ Tryz.prog β (exH L c Gb G1 G2) 0 z11 z4 (mkS [some z3,some z1,some (.cells [.slice (some (Addr.mk 0 0 (some z20))) z23 z39,.bool true] true 0),
 some (.cells [.int .i64 z9,.int .i64 z12,.int .i64 z21,.int .i64 z16,.int .i64 z19,.bool (Int.ofNat (beN z0 z30 1) !=(0:Int)),.int .i64 z31,.int .i64 (c3 z2 (frF z0 z2) (fsF z0 z2) (0:Int) (0:Int) (fkF z0 z2) (fkF z0 z2)),.int .i64 (c3 z2 (frF z0 z2) (fsF z0 z2) (0:Int) (0:Int) (tkI (fkF z0 z2) []) (tkI (fkF z0 z2) (fpF z0 z2))),.float .f64 (c3 z2 (frF z0 z2) (fsF z0 z2) 0 0 (tkF (fkF z0 z2) []) (tkF (fkF z0 z2) (fpF z0 z2))),.slice none 0 0,.slice none 0 0] true 0)])∧TmR L c Gb G1 G2 β K))) (need z38 (br (Nat.blt z6 1) (need (rfB (some z3) z14 z6 0) (LoopJ Tryz.prog β (exH L c Gb G1 G2) 0 z11 z4 (mkS [some z3,some z1,some (.cells [.slice (some (Addr.mk 0 0 (some z14))) z6 0,.bool true] true 0),some z5])∧TmR L c Gb G1 G2 β K)) (need (rfB (some z3) z14 z6 0) (LoopJ Tryz.prog β (exH L c Gb G1 G2) 0 z11 (mkF 105 [(0,.slice (some ⟨0,0,some 0⟩) z28 c),(2,.pointer (some ⟨1,0,none⟩)),(4,.pointer (some ⟨2,0,none⟩)),(5,.pointer (some ⟨3,0,none⟩)),(6,.int .u64 (Int.ofNat (beN z0 z14 1)))]) (mkS [some z3,some z1,some (.cells [.slice (some (Addr.mk 0 0 (some (List.length z0-(z6-1))))) (z6-1) 0,.bool false] true 0),some z5])∧TmR L c Gb G1 G2 β K)))))))))))))))))))) (.cells [.int .i64 z9,.int .i64 z12,.int .i64 z21,.int .i64 z16,.int .i64 z19,.bool (Int.ofNat (beN z0 z30 1) !=(0:Int)),.int .i64 z31,.int .i64 (bif fkF z0 z2==(0:Int)then(0:Int)else fkF z0 z2),.int .i64 (bif fkF z0 z2==(0:Int)then(0:Int)else tkI (fkF z0 z2) (fpF z0 z2)),.float .f64 (bif fkF z0 z2==(0:Int)then 0 else tkF (fkF z0 z2) (fpF z0 z2)),.slice none 0 0,.slice none 0 0] true 0))) (rfB (some z3) z33 z29 0) (rfB (some z3) z34 z27 0) (rfB (some z3) z35 z26 0) (rfB (some z3) z32 z28 c) (rfB (some z3) z36 z13 0) (rfB (some z3) z30 z15 0) (rfB (some z3) z37 z18 0) (IntKind.wrap .i64 (Int.ofNat (beN z0 z32 1))) (IntKind.wrap .i64 (Int.ofNat (beN z0 z33 2))) (IntKind.wrap .i64 (Int.ofNat (beN z0 z34 2))) (IntKind.wrap .i64 (Int.ofNat (beN z0 z35 2))) (IntKind.wrap .i64 (Int.ofNat (beN z0 z36 1))) (IntKind.wrap .i64 (Int.ofNat (beN z0 z37 8))))) (bif fkF z0 z2==(0:Int)then List.length L-1-2-2-2-1-1-8-1 else List.length L-1-2-2-2-1-1-8-1-wiK (fkF z0 z2)) (List.length z0-bif fkF z0 z2==(0:Int)then List.length L-1-2-2-2-1-1-8-1 else List.length L-1-2-2-2-1-1-8-1-wiK (fkF z0 z2)) (List.length z0-c3 z2 (frF z0 z2) (fsF z0 z2) z2 (List.length L-1-2-2-2-1-1-8-1) (List.length L-1-2-2-2-1-1-8-1) (List.length L-1-2-2-2-1-1-8-1-wiK (fkF z0 z2))) (c3 z2 (frF z0 z2) (fsF z0 z2) z2 (List.length L-1-2-2-2-1-1-8-1) (List.length L-1-2-2-2-1-1-8-1) (List.length L-1-2-2-2-1-1-8-1-wiK (fkF z0 z2))) (List.length z0-z15) (List.length z0-List.length L) (List.length z0-z29) (List.length z0-z27) (List.length z0-z26) (List.length z0-z13) (List.length z0-z18) (rfB (some z3) (List.length z0-z2) z2 0))) (rowL U8 (rowN (some z3)) (some z3)))) (.row .look 1 0 z28 (encL L)) (mkF 105 [(0,.slice (some ⟨0,0,some 0⟩) z28 c),(2,.pointer (some ⟨1,0,none⟩)),(4,.pointer (some ⟨2,0,none⟩)),(5,.pointer (some ⟨3,0,none⟩)),(6,.int .u64 (0:Int))]) (bif Nat.blt z2 1 then 0 else 0))) (.cells [.int .i64 (0:Int),.int .i64 (0:Int),.int .i64 (0:Int),.int .i64 (0:Int),.int .i64 (0:Int),.bool false,.int .i64 (0:Int),.int .i64 (0:Int),.int .i64 (0:Int),.float .f64 0,.slice none 0 0,.slice none 0 0] true 0) (List.length L-1-2-2-2-1-1-8) (List.length L-1-2-2-2) (List.length L-1-2-2-2-1) (List.length L-1-2-2-2-1-1) (List.length L-1-2-2) (List.length L-1-2) L.length (List.length L-1) (a5_ Tryz.prog 11 0):=by kernel_rfl
theorem adO_(L:List U8)(c:Nat)(k:Int)(m:Ms)(n:Nat)(β:Bs)(Nx:Kt):c0_ Tryz.prog toldZ4 100 20 β (fun _=>0) (cnOf 1 slH) (fun _ _=>False) 11 0 1 (lvH 0) (GT1 L c k) (HS1 L n 0 false m) Nx=
 (fun(z3:AObj) (z12 z14 z17:Nat)=>((fun(z4 z7 z8:AObj) (z5:AFr) (z11 z18:Bool)=>((fun(z1:List U8) (z15:Bool)=>((fun(z6:Int)=>((fun(z9:Int) (z10 z16:Bool)=>((fun(z13:Bool) (z19:Nat)=>((fun(z0:Prop)=>((fun(z2:Prop)=>(br (decide (k>(0:Int))) (br (Nat.blt n 1) z2 z2) (Nx (.exit 0) (mkF 105 [(0,.slice (some ⟨0,0,some 0⟩) z17 c),(2,.pointer (some ⟨1,0,none⟩)),(4,.pointer (some ⟨2,0,none⟩)),(5,.pointer (some ⟨3,0,none⟩))]) (mkS [some z7,some z3,some (.cells [.slice (some (Addr.mk 0 0 (some (List.length L-n)))) n 0,.bool false] true 0),some (.cells [.int .i64 (Ms.k m),.int .i64 (Ms.id m),.int .i64 (Ms.er m),.int .i64 (Ms.n m),.int .i64 (Ms.sq m),.bool (Ms.lo m),.int .i64 (Ms.ev m),.int .i64 (Vl.k (Ms.bd m)),.int .i64 (Vl.i (Ms.bd m)),.float .f64 (Vl.f (Ms.bd m)),.slice (some ⟨4,0,some 0⟩) z14 1,.slice none 0 0] true 0),some (.row .mine 1 0 z14 (encL (Ms.ps m)))])))) (need z15 (br (Nat.blt n 1) (need z15 (need z18 (need z11 (Nx .normal z5 (mkS [some z7,some z3,some (.cells [.slice (some (Addr.mk 0 0 (some (List.length z1-n)))) n 0,.bool true] true 0),some z4,some z8]))))) (need z15 (br z16 z0 (need z10 (need z13 (need z10 (need z13 z0)))))))))) (br z16 (need z18 (need z11 (Nx .normal z5 (mkS [some z7,some z3,some (.cells [.slice (some (Addr.mk 0 0 (some (List.length z1-(n-1))))) (n-1) 0,.bool true] true 0),some z4,some z8])))) (need z10 (need z13 (need z10 (need z13 (need (Nat.ble 0 (List.length z1-(n-1)+0)&&Nat.ble (List.length z1-(n-1)+0+z19) z17) (need (allB z19 fun j=>encL L (List.length z1-(n-1)+0+j)) (need z18 (need z11 (Nx .normal z5 (mkS [some z7,some z3,some (.cells [.slice (some (Addr.mk 0 0 (some (List.length z1-(n-1)+Int.toNat z9)))) (n-1-Int.toNat z9) (bif Nat.beq (n-1) 0 then 0 else 0),.bool false] true 0),some z4,some (.row .mine 1 0 z12 fun j k=>mrgT (Nat.blt j z14) (encL (Ms.ps m) (0+j) k) (selT 1 1 [.sc (.string (s1_ z19 fun j=>encL L (List.length z1-(n-1)+0+j)))] (j-List.length (Ms.ps m)) k))]))))))))))))) (Nat.ble (Int.toNat z9) (n-1)) (Int.toNat z9-0))) (IntKind.wrap .i64 z6) (decide ((0:Int)≤IntKind.wrap .i64 z6)) (decide (IntKind.wrap .i64 z6>Int.ofNat (n-1))))) (Int.ofNat (beN z1 (List.length z1-n) 1)))) (rowL U8 (rowN (some z7)) (some z7)) (rfB (some z7) (List.length L-n) n 0))) (.cells [.int .i64 (Ms.k m),.int .i64 (Ms.id m),.int .i64 (Ms.er m),.int .i64 (Ms.n m),.int .i64 (Ms.sq m),.bool (Ms.lo m),.int .i64 (Ms.ev m),.int .i64 (Vl.k (Ms.bd m)),.int .i64 (Vl.i (Ms.bd m)),.float .f64 (Vl.f (Ms.bd m)),.slice (some ⟨4,0,some 0⟩) z12 1,.slice none 0 0] true 0) (.row .look 1 0 z17 (encL L)) (.row .mine 1 0 z12 fun j k=>mrgT (Nat.blt j z14) (encL (Ms.ps m) (0+j) k) (selT 1 1 [.sc (.string (ByteArray.mk #[]))] (j-List.length (Ms.ps m)) k)) (mkF 105 [(0,.slice (some ⟨0,0,some 0⟩) z17 c),(2,.pointer (some ⟨1,0,none⟩)),(4,.pointer (some ⟨2,0,none⟩)),(5,.pointer (some ⟨3,0,none⟩)),(6,.int .u64 (IntKind.wrap .u64 (k-(1:Int))))]) (true&&Nat.ble (0+List.length (Ms.ps m)) z14) (Nat.ble z12 1000000))) (.cells [.int .i64 (0:Int),.int .i64 (0:Int),.int .i64 (0:Int),.int .i64 (0:Int),.int .i64 (0:Int),.bool false,.int .i64 (0:Int),.int .i64 (0:Int),.int .i64 (0:Int),.float .f64 0,.slice none 0 0,.slice none 0 0] true 0) (List.length (Ms.ps m)+1) (List.length (Ms.ps m)) L.length:=by kernel_rfl
theorem adN_(L:List U8)(c:Nat)(k:Int)(m:Ms)(n d:Nat)(β:Bs)(Nx:Kt):c0_ Tryz.prog toldZ4 100 20 β (fun _=>0) (cnOf 1 slH) (fun _ _=>False) 11 0 1 (lvH 0) (GT1 L c k) (HS1 L n d true m) Nx=
 (fun(z0:Prop)=>(br (decide (k>(0:Int))) z0 z0)) (Nx (.exit 0) (mkF 105 [(0,.slice (some ⟨0,0,some 0⟩) L.length c),(2,.pointer (some ⟨1,0,none⟩)),(4,.pointer (some ⟨2,0,none⟩)),(5,.pointer (some ⟨3,0,none⟩))]) (mkS [some (.row .look 1 0 L.length (encL L)),some (.cells [.int .i64 (0:Int),.int .i64 (0:Int),.int .i64 (0:Int),.int .i64 (0:Int),.int .i64 (0:Int),.bool false,.int .i64 (0:Int),.int .i64 (0:Int),.int .i64 (0:Int),.float .f64 0,.slice none 0 0,.slice none 0 0] true 0),some (.cells [.slice (some (Addr.mk 0 0 (some (List.length L-n)))) n d,.bool true] true 0),some (.cells [.int .i64 (Ms.k m),.int .i64 (Ms.id m),.int .i64 (Ms.er m),.int .i64 (Ms.n m),.int .i64 (Ms.sq m),.bool (Ms.lo m),.int .i64 (Ms.ev m),.int .i64 (Vl.k (Ms.bd m)),.int .i64 (Vl.i (Ms.bd m)),.float .f64 (Vl.f (Ms.bd m)),.slice (some ⟨4,0,some 0⟩) (List.length (Ms.ps m)) 1,.slice none 0 0] true 0),some (.row .mine 1 0 (List.length (Ms.ps m)) (encL (Ms.ps m)))])):=by kernel_rfl
theorem adM_(L:List U8)(c:Nat)(k:Int)(m:Ms)(n:Nat)(β:Bs)(Nx:Kt):c0_ Tryz.prog toldZ4 100 20 β (fun _=>0) (cnOf 1 slH) (fun _ _=>False) 11 2 1 (lvH 2) (GT2 L c k) (HS2 L n 0 false m) Nx=
 (fun(z2:AObj) (z7 z8 z12 z13:Nat)=>((fun(z3 z4 z6:AObj) (z5:AFr) (z11:Bool)=>((fun(z0:List U8) (z9:Bool)=>((fun(z10:Bool)=>((fun(z1:Prop)=>(br (decide (k>(0:Int))) (br z10 z1 z1) (Nx (.exit 2) (mkF 105 [(0,.slice (some ⟨0,0,some 0⟩) z13 c),(2,.pointer (some ⟨1,0,none⟩)),(4,.pointer (some ⟨2,0,none⟩)),(5,.pointer (some ⟨3,0,none⟩))]) (mkS [some z4,some z2,some (.cells [.slice (some (Addr.mk 0 0 (some (List.length L-n)))) n 0,.bool false] true 0),some (.cells [.int .i64 (Ms.k m),.int .i64 (Ms.id m),.int .i64 (Ms.er m),.int .i64 (Ms.n m),.int .i64 (Ms.sq m),.bool (Ms.lo m),.int .i64 (Ms.ev m),.int .i64 (Vl.k (Ms.bd m)),.int .i64 (Vl.i (Ms.bd m)),.float .f64 (Vl.f (Ms.bd m)),.slice (some ⟨4,0,some 0⟩) z12 1,.slice (some ⟨5,0,some 0⟩) z7 1] true 0),some z6,some (.row .mine 3 0 z7 (encL (Ms.vs m)))])))) (need z9 (br z10 (need z9 (need (Nat.ble z8 1000000) (need z11 (Nx .normal z5 (mkS [some z4,some z2,some (.cells [.slice (some (Addr.mk 0 0 (some (List.length z0-c3 n (frF z0 n) (fsF z0 n) n (n-1) (n-1) (n-1-wiK (fkF z0 n)))))) (c3 n (frF z0 n) (fsF z0 n) n (n-1) (n-1) (n-1-wiK (fkF z0 n))) (bif Nat.blt n 1 then 0 else 0),.bool true] true 0),some z3,some z6,some (.row .mine 3 0 z8 fun j k=>mrgT (Nat.blt j z7) (encL (Ms.vs m) (0+j) k) (selT 3 1 [.sc (.int .i64 (c3 n (frF z0 n) (fsF z0 n) (0:Int) (0:Int) (fkF z0 n) (fkF z0 n))),.sc (.int .i64 (c3 n (frF z0 n) (fsF z0 n) (0:Int) (0:Int) (tkI (fkF z0 n) []) (tkI (fkF z0 n) (fpF z0 n)))),.sc (.float .f64 (c3 n (frF z0 n) (fsF z0 n) 0 0 (tkF (fkF z0 n) []) (tkF (fkF z0 n) (fpF z0 n))))] (j-List.length (Ms.vs m)) k))]))))) (need z9 (need (Nat.ble z8 1000000) (need z11 (Nx .normal z5 (mkS [some z4,some z2,some (.cells [.slice (some (Addr.mk 0 0 (some (List.length z0-bif fkF z0 n==(0:Int)then n-1 else n-1-wiK (fkF z0 n))))) (bif fkF z0 n==(0:Int)then n-1 else n-1-wiK (fkF z0 n)) 0,.bool false] true 0),some z3,some z6,some (.row .mine 3 0 z8 fun j k=>mrgT (Nat.blt j z7) (encL (Ms.vs m) (0+j) k) (selT 3 1 [.sc (.int .i64 (bif fkF z0 n==(0:Int)then(0:Int)else fkF z0 n)),.sc (.int .i64 (bif fkF z0 n==(0:Int)then(0:Int)else tkI (fkF z0 n) (fpF z0 n))),.sc (.float .f64 (bif fkF z0 n==(0:Int)then 0 else tkF (fkF z0 n) (fpF z0 n)))] (j-List.length (Ms.vs m)) k))]))))))))) (Nat.blt n 1||(frF z0 n||(fsF z0 n|| !tkQ (fkF z0 n) (fpF z0 n)))))) (rowL U8 (rowN (some z4)) (some z4)) (rfB (some z4) (List.length L-n) n 0))) (.cells [.int .i64 (Ms.k m),.int .i64 (Ms.id m),.int .i64 (Ms.er m),.int .i64 (Ms.n m),.int .i64 (Ms.sq m),.bool (Ms.lo m),.int .i64 (Ms.ev m),.int .i64 (Vl.k (Ms.bd m)),.int .i64 (Vl.i (Ms.bd m)),.float .f64 (Vl.f (Ms.bd m)),.slice (some ⟨4,0,some 0⟩) z12 1,.slice (some ⟨5,0,some 0⟩) z8 1] true 0) (.row .look 1 0 z13 (encL L)) (.row .mine 1 0 z12 (encL (Ms.ps m))) (mkF 105 [(0,.slice (some ⟨0,0,some 0⟩) z13 c),(2,.pointer (some ⟨1,0,none⟩)),(4,.pointer (some ⟨2,0,none⟩)),(5,.pointer (some ⟨3,0,none⟩)),(7,.int .u64 (IntKind.wrap .u64 (k-(1:Int))))]) (true&&Nat.ble (0+List.length (Ms.vs m)) z7))) (.cells [.int .i64 (0:Int),.int .i64 (0:Int),.int .i64 (0:Int),.int .i64 (0:Int),.int .i64 (0:Int),.bool false,.int .i64 (0:Int),.int .i64 (0:Int),.int .i64 (0:Int),.float .f64 0,.slice none 0 0,.slice none 0 0] true 0) (List.length (Ms.vs m)) (List.length (Ms.vs m)+1) (List.length (Ms.ps m)) L.length:=by kernel_rfl
theorem adL_(L:List U8)(c:Nat)(k:Int)(m:Ms)(n d:Nat)(β:Bs)(Nx:Kt):c0_ Tryz.prog toldZ4 100 20 β (fun _=>0) (cnOf 1 slH) (fun _ _=>False) 11 2 1 (lvH 2) (GT2 L c k) (HS2 L n d true m) Nx=
 (fun(z0:Prop)=>(br (decide (k>(0:Int))) z0 z0)) (Nx (.exit 2) (mkF 105 [(0,.slice (some ⟨0,0,some 0⟩) L.length c),(2,.pointer (some ⟨1,0,none⟩)),(4,.pointer (some ⟨2,0,none⟩)),(5,.pointer (some ⟨3,0,none⟩))]) (mkS [some (.row .look 1 0 L.length (encL L)),some (.cells [.int .i64 (0:Int),.int .i64 (0:Int),.int .i64 (0:Int),.int .i64 (0:Int),.int .i64 (0:Int),.bool false,.int .i64 (0:Int),.int .i64 (0:Int),.int .i64 (0:Int),.float .f64 0,.slice none 0 0,.slice none 0 0] true 0),some (.cells [.slice (some (Addr.mk 0 0 (some (List.length L-n)))) n d,.bool true] true 0),some (.cells [.int .i64 (Ms.k m),.int .i64 (Ms.id m),.int .i64 (Ms.er m),.int .i64 (Ms.n m),.int .i64 (Ms.sq m),.bool (Ms.lo m),.int .i64 (Ms.ev m),.int .i64 (Vl.k (Ms.bd m)),.int .i64 (Vl.i (Ms.bd m)),.float .f64 (Vl.f (Ms.bd m)),.slice (some ⟨4,0,some 0⟩) (List.length (Ms.ps m)) 1,.slice (some ⟨5,0,some 0⟩) (List.length (Ms.vs m)) 1] true 0),some (.row .mine 1 0 (List.length (Ms.ps m)) (encL (Ms.ps m))),some (.row .mine 3 0 (List.length (Ms.vs m)) (encL (Ms.vs m)))])):=by kernel_rfl
def vbF(L:List U8)(n:Nat):Bool:=Nat.blt n 1||(frF L n||(fsF L n|| !tkQ (fkF L n) (fpF L n)))
def vnF(L:List U8)(n:Nat):Nat:=cond (fkF L n==0) (n-1) (n-1-wiK (fkF L n))
def vvF(L:List U8)(n:Nat):Vl:=⟨cond (fkF L n==0) 0 (fkF L n),cond (fkF L n==0) 0 (tkI (fkF L n) (fpF L n)),cond (fkF L n==0) 0 (tkF (fkF L n) (fpF L n))⟩
def vfL(L:List U8):Nat→Nat→List Vl→Option (List Vl×Nat)
 |0,n,vs=>some (vs,n)
 |r+1,n,vs=>cond (vbF L n) none (vfL L r (vnF L n) (vs++[vvF L n]))
structure PHv where
 r:Nat
 n:Nat
 d:Nat
 q:Bool
 vs:List Vl
structure IHv (L:List U8) (qq:Option (List Vl×Nat)) (p:PHv):Prop where
 n:p.n≤L.length
 d:p.d≤1
 len:p.vs.length+p.r≤1000
 good:p.q=false→p.d=0∧vfL L p.r p.n p.vs=qq
 bad:p.q=true→qq=none
theorem adI_{L:List U8}{β:Bs}{m:Ms}{ps:List St}{vs:List Vl}{n d f:Nat}{q:Bool}{k i:Int}{F:AFr}:
  Seen β F (mkS [some (rowO .look L),some (.cells (msCs zMs nilV nilV) true 0),some (RfO L n d q),some (.cells (msCs (k9_ m ps vs) (.slice (some ⟨4,0,some 0⟩) ps.length 1) (.slice (some ⟨5,0,some 0⟩) (vs.length+1) 1)) true 0),some (rowO .mine ps),some (.row .mine 3 0 (vs.length+1) fun j k'=>mrgT (Nat.blt j vs.length) (encL vs j k') (selT 3 1 [Td.sc (.int .i64 k),Td.sc (.int .i64 i),Td.sc (.float .f64 f)] (j-vs.length) k'))])
   F (HS2 L n d q (k9_ m ps (vs++[⟨k,i,f⟩]))):=by
 have hl:(vs++[(⟨k,i,f⟩:Vl)]).length=vs.length+1:=by simp
 refine Seen.objs rfl fun q o2 h=> ?_
 match q,h with
 |0,h=>cases h;exact⟨_,rfl,rfl,fun _ _ _ h=>h⟩
 |1,h=>cases h;exact⟨_,rfl,rfl,fun _ _ _ h=>h⟩
 |2,h=>cases h;exact⟨_,rfl,rfl,fun _ _ _ h=>h⟩
 |3,h=>cases h;exact⟨_,by rw[←hl];rfl,rfl,fun _ _ _ h=>h⟩
 |4,h=>cases h;exact⟨_,rfl,rfl,fun _ _ _ h=>h⟩
 |5,h=>
  cases h
  refine⟨_,rfl,rfl,fun _ _ _ h=>k6_ (α:=Vl) (a:=⟨k,i,f⟩) (ts:=[Td.sc (.int .i64 k),Td.sc (.int .i64 i),Td.sc (.float .f64 f)]) (g:=encL vs) rfl rfl (fun _ _=>rfl) (fun j hj=> ?_) ?_⟩
  ·have hj:j<3:=hj
   match j,hj with
   |0,_=>rfl
   |1,_=>rfl
   |2,_=>rfl
  ·simp only[Nat.zero_add];exact h
 |_+6,h=>cases h
theorem abt_{L:List U8}{c:Nat}{m:Ms}{ps:List St}{β:Bs}(hβ:β.X.length=1)(hL:L.all (okA U8)=true)(hl:L.length≤1000000){ex:Nat→Kt→Prop}{qq:Option (List Vl×Nat)}(p0:PHv)(hI0:IHv L qq p0)
  (hexB: ∀K,ex 2 K→ ∀(vs:List Vl) (n d:Nat),qq=none→n≤L.length→d≤1→K (.exit 2) (GTx L c) (HS2 L n d true (k9_ m ps vs)))
  (hexG: ∀K,ex 2 K→ ∀(vs:List Vl) (n:Nat),qq=some (vs,n)→n≤L.length→K (.exit 2) (GTx L c) (HS2 L n 0 false (k9_ m ps vs))):
  LoopJ Tryz.prog β ex 2 (a5_ Tryz.prog 11 2) (GT2 L c (p0.r:Nat)) (HS2 L p0.n p0.d p0.q (k9_ m ps p0.vs)):=by
 refine b2_ (IHv L qq) (fun p:PHv=>GT2 L c (p.r:Nat)) (fun p:PHv=>HS2 L p.n p.d p.q (k9_ m ps p.vs)) (fun p:PHv=>p.r) (fun p hI K hK=> ?_) p0 hI0
 have hB:=hexB K hK
 have hG:=hexG K hK
 clear hK
 show J _ β _ _ _ (Nn β (IHv L qq) (fun p:PHv=>p.r) (fun p:PHv=>GT2 L c (p.r:Nat)) (fun p:PHv=>HS2 L p.n p.d p.q (k9_ m ps p.vs)) p K)
 obtain⟨r,n,d,q,vs⟩:=p
 obtain⟨g1,g2,g3,g4,g5⟩:=hI
 have g1:n≤L.length:=g1
 have g2:d≤1:=g2
 have g3:vs.length+r≤1000:=g3
 have g4:q=false→d=0∧vfL L r n vs=qq:=g4
 have g5:q=true→qq=none:=g5
 refine rJ_ (E:=1) (lvs:=slH) (un:=fun _=>0) (fuel:=100) (n:=20) (ex:=fun _ _=>False) follows toldZ4_ok hβ (lv:=lvH 2) ?_
 cases q with
 |true=>
  refine(adL_ L c (r:Nat) (k9_ m ps vs) n d β _).mpr ?_
  exact a0_ (fun _=>Nn.exit (Seen.refl _ _ _) (hB vs n d (g5 rfl) g1 g2)) (fun _=>Nn.exit (Seen.refl _ _ _) (hB vs n d (g5 rfl) g1 g2))
 |false=>
  obtain⟨hd,g6⟩:=g4 rfl
  subst hd
  refine(adM_ L c (r:Nat) (k9_ m ps vs) n β _).mpr ?_
  try dsimp only
  cases r with
  |zero=>exact a0_ (fun h=>by simp at h) (fun _=>Nn.exit (Seen.refl _ _ _) (hG vs n g6.symm g1))
  |succ r=>
   have hw:IntKind.wrap .u64 (((r+1:Nat):Int)-1)=(r:Int):=by
    have:((r+1:Nat):Int)-1=((r:Nat):Int):=by omega
    rw[this,i7_ (by omega)]
   have e1: ∀b:Bool,(bif b then 0 else 0)=0:=fun b=>by cases b<;>rfl
   have hR:=a7_ (c:=0) hL hl g1 (Nat.zero_le _)
   have c4:Nat.ble (vs.length+1) 1000000=true:=Nat.ble_eq_true_of_le (by omega)
   have c5:(true&&Nat.ble vs.length vs.length)=true:=by simp
   have hnx: ∀(p1:PHv) (st:ASt),p1.r=r→IHv L qq p1→Seen β (GT2 L c (r:Nat)) st (GT2 L c (r:Nat)) (HS2 L p1.n p1.d p1.q (k9_ m ps p1.vs))→Nn β (IHv L qq) (fun p:PHv=>p.r) (fun p:PHv=>GT2 L c (p.r:Nat)) (fun p:PHv=>HS2 L p.n p.d p.q (k9_ m ps p.vs)) ⟨r+1,n,0,false,vs⟩ K .normal (GT2 L c (r:Nat)) st:=fun p1 st hr hI hs=>by
    subst hr
    exact Nn.next (I:=IHv L qq) (m:=fun p:PHv=>p.r) (F:=fun p:PHv=>GT2 L c (p.r:Nat)) (S:=fun p:PHv=>HS2 L p.n p.d p.q (k9_ m ps p.vs)) (p:=⟨p1.r+1,n,0,false,vs⟩) p1 hI (Nat.lt_succ_self _) hs
   refine a0_ (fun _=> ?_) (fun h=>by simp at h)
   cases hb:vbF L n with
   |true=>
    have hb':(Nat.blt n 1||(frF L n||(fsF L n|| !tkQ (fkF L n) (fpF L n))))=true:=hb
    simp only[h7_,c7_,hb',br_t,e1,Nat.zero_add,hw]
    have hqn:qq=none:=by rw[←g6];show cond (vbF L n) _ _=_;rw[hb];rfl
    refine nd_ hR (nd_ hR (nd_ c4 (nd_ c5 (hnx ⟨r,c3 n (frF L n) (fsF L n) n (n-1) (n-1) (n-1-wiK (fkF L n)),0,true,vs++[_]⟩ _ rfl ⟨?_,Nat.zero_le _,?_,(fun h=>by cases h),fun _=>hqn⟩ adI_))))
    ·show c3 n (frF L n) (fsF L n) n (n-1) (n-1) (n-1-wiK (fkF L n))≤L.length
     unfold c3
     cases Nat.blt n 1<;>cases frF L n<;>cases fsF L n<;>simp<;>omega
    ·show(vs++[_]).length+r≤1000
     rw[List.length_append];simp;omega
   |false=>
    have hb':(Nat.blt n 1||(frF L n||(fsF L n|| !tkQ (fkF L n) (fpF L n))))=false:=hb
    simp only[h7_,c7_,hb',br_f,e1,Nat.zero_add,hw]
    have g7:vfL L r (vnF L n) (vs++[vvF L n])=qq:=by rw[←g6];show _=cond (vbF L n) _ _;rw[hb];rfl
    refine nd_ hR (nd_ hR (nd_ c4 (nd_ c5 (hnx ⟨r,vnF L n,0,false,vs++[vvF L n]⟩ _ rfl ⟨?_,Nat.zero_le _,?_,fun _=>⟨rfl,g7⟩,(fun h=>by cases h)⟩ adI_))))
    ·show vnF L n≤L.length
     unfold vnF
     cases fkF L n==0<;>simp<;>omega
    ·show(vs++[_]).length+r≤1000
     rw[List.length_append];simp;omega
def kbF(L:List U8)(n:Nat):Nat:=(fkF L n).toNat
def pbF(L:List U8)(n:Nat):Bool:=Nat.blt n 1||decide (fkF L n>Int.ofNat (n-1))
def pvF'(L:List U8)(n:Nat):St:=⟨s1_ (kbF L n) fun j=>encL L (L.length-(n-1)+j)⟩
def pfL(L:List U8):Nat→Nat→List St→Option (List St×Nat)
 |0,n,ps=>some (ps,n)
 |r+1,n,ps=>cond (pbF L n) none (pfL L r (n-1-kbF L n) (ps++[pvF' L n]))
structure PHp where
 r:Nat
 n:Nat
 d:Nat
 q:Bool
 ps:List St
structure IHp (L:List U8) (qq:Option (List St×Nat)) (p:PHp):Prop where
 n:p.n≤L.length
 d:p.d≤1
 len:p.ps.length+p.r≤1000
 good:p.q=false→p.d=0∧pfL L p.r p.n p.ps=qq
 bad:p.q=true→qq=none
theorem O0_{L:List U8}{β:Bs}{m:Ms}{ps:List St}{n d:Nat}{q:Bool}{z:ByteArray}{F:AFr}:
  Seen β F (mkS [some (rowO .look L),some (.cells (msCs zMs nilV nilV) true 0),some (RfO L n d q),some (.cells (msCs (i3_ m ps) (.slice (some ⟨4,0,some 0⟩) (ps.length+1) 1) nilV) true 0),some (.row .mine 1 0 (ps.length+1) fun j k=>mrgT (Nat.blt j ps.length) (encL ps j k) (selT 1 1 [Td.sc (.string z)] (j-ps.length) k))])
   F (HS1 L n d q (i3_ m (ps++[⟨z⟩]))):=by
 have hl:(ps++[(⟨z⟩:St)]).length=ps.length+1:=by simp
 refine Seen.objs rfl fun q o2 h=> ?_
 match q,h with
 |0,h=>cases h;exact⟨_,rfl,rfl,fun _ _ _ h=>h⟩
 |1,h=>cases h;exact⟨_,rfl,rfl,fun _ _ _ h=>h⟩
 |2,h=>cases h;exact⟨_,rfl,rfl,fun _ _ _ h=>h⟩
 |3,h=>cases h;exact⟨_,by rw[←hl];rfl,rfl,fun _ _ _ h=>h⟩
 |4,h=>
  cases h
  refine⟨_,rfl,rfl,fun _ _ _ h=>k6_ (α:=St) (a:=⟨z⟩) (ts:=[Td.sc (.string z)]) (g:=encL ps) rfl rfl (fun _ _=>rfl) (fun j hj=> ?_) ?_⟩
  ·have hj:j<1:=hj
   match j,hj with
   |0,_=>rfl
  ·simp only[Nat.zero_add];exact h
 |_+5,h=>cases h
theorem abu_{L:List U8}{c:Nat}{m:Ms}{β:Bs}(hβ:β.X.length=1)(hL:L.all (okA U8)=true)(hl:L.length≤1000000){ex:Nat→Kt→Prop}{qq:Option (List St×Nat)}(p0:PHp)(hI0:IHp L qq p0)
  (hexB: ∀K,ex 0 K→ ∀(ps:List St) (n d:Nat),qq=none→n≤L.length→d≤1→K (.exit 0) (GTx L c) (HS1 L n d true (i3_ m ps)))
  (hexG: ∀K,ex 0 K→ ∀(ps:List St) (n:Nat),qq=some (ps,n)→n≤L.length→K (.exit 0) (GTx L c) (HS1 L n 0 false (i3_ m ps))):
  LoopJ Tryz.prog β ex 0 (a5_ Tryz.prog 11 0) (GT1 L c (p0.r:Nat)) (HS1 L p0.n p0.d p0.q (i3_ m p0.ps)):=by
 refine b2_ (IHp L qq) (fun p:PHp=>GT1 L c (p.r:Nat)) (fun p:PHp=>HS1 L p.n p.d p.q (i3_ m p.ps)) (fun p:PHp=>p.r) (fun p hI K hK=> ?_) p0 hI0
 have hB:=hexB K hK
 have hG:=hexG K hK
 clear hK
 show J _ β _ _ _ (Nn β (IHp L qq) (fun p:PHp=>p.r) (fun p:PHp=>GT1 L c (p.r:Nat)) (fun p:PHp=>HS1 L p.n p.d p.q (i3_ m p.ps)) p K)
 obtain⟨r,n,d,q,ps⟩:=p
 obtain⟨g1,g2,g3,g4,g5⟩:=hI
 have g1:n≤L.length:=g1
 have g2:d≤1:=g2
 have g3:ps.length+r≤1000:=g3
 have g4:q=false→d=0∧pfL L r n ps=qq:=g4
 have g5:q=true→qq=none:=g5
 refine rJ_ (E:=1) (lvs:=slH) (un:=fun _=>0) (fuel:=100) (n:=20) (ex:=fun _ _=>False) follows toldZ4_ok hβ (lv:=lvH 0) ?_
 cases q with
 |true=>
  refine(adN_ L c (r:Nat) (i3_ m ps) n d β _).mpr ?_
  exact a0_ (fun _=>Nn.exit (Seen.refl _ _ _) (hB ps n d (g5 rfl) g1 g2)) (fun _=>Nn.exit (Seen.refl _ _ _) (hB ps n d (g5 rfl) g1 g2))
 |false=>
  obtain⟨hd,g6⟩:=g4 rfl
  subst hd
  refine(adO_ L c (r:Nat) (i3_ m ps) n β _).mpr ?_
  try dsimp only
  cases r with
  |zero=>exact a0_ (fun h=>by simp at h) (fun _=>Nn.exit (Seen.refl _ _ _) (hG ps n g6.symm g1))
  |succ r=>
   have hw:IntKind.wrap .u64 (((r+1:Nat):Int)-1)=(r:Int):=by
    have:((r+1:Nat):Int)-1=((r:Nat):Int):=by omega
    rw[this,i7_ (by omega)]
   have e1: ∀b:Bool,(bif b then 0 else 0)=0:=fun b=>by cases b<;>rfl
   have hR:=a7_ (c:=0) hL hl g1 (Nat.zero_le _)
   have c4:Nat.ble (ps.length+1) 1000000=true:=Nat.ble_eq_true_of_le (by omega)
   have c5:(true&&Nat.ble ps.length ps.length)=true:=by simp
   have hfk:=akg_ hL n
   have hkb:(kbF L n:Int)=fkF L n:=by unfold kbF;omega
   have hlen: ∀x:St,(ps++[x]).length+r≤1000:=fun x=>by rw[List.length_append];simp;omega
   have hnx: ∀(p1:PHp) (st:ASt),p1.r=r→IHp L qq p1→Seen β (GT1 L c (r:Nat)) st (GT1 L c (r:Nat)) (HS1 L p1.n p1.d p1.q (i3_ m p1.ps))→Nn β (IHp L qq) (fun p:PHp=>p.r) (fun p:PHp=>GT1 L c (p.r:Nat)) (fun p:PHp=>HS1 L p.n p.d p.q (i3_ m p.ps)) ⟨r+1,n,0,false,ps⟩ K .normal (GT1 L c (r:Nat)) st:=fun p1 st hr hI hs=>by
    subst hr
    exact Nn.next (I:=IHp L qq) (m:=fun p:PHp=>p.r) (F:=fun p:PHp=>GT1 L c (p.r:Nat)) (S:=fun p:PHp=>HS1 L p.n p.d p.q (i3_ m p.ps)) (p:=⟨p1.r+1,n,0,false,ps⟩) p1 hI (Nat.lt_succ_self _) hs
   refine a0_ (fun _=> ?_) (fun h=>by simp at h)
   have fold:IntKind.wrap .i64 (Int.ofNat (beN L (L.length-n) 1))=fkF L n:=rfl
   have fold2:(fkF L n).toNat=kbF L n:=rfl
   have c0:decide ((0:Int)≤fkF L n)=true:=decide_eq_true (by omega)
   cases h1:Nat.blt n 1 with
   |true=>
    have hqn:qq=none:=by rw[←g6];show cond (Nat.blt n 1||_) _ _=_;rw[h1];rfl
    simp only[h7_,c7_,h1,br_t,e1,Nat.zero_add,hw]
    exact nd_ hR (nd_ hR (nd_ c4 (nd_ c5 (hnx ⟨r,n,0,true,ps++[_]⟩ _ rfl ⟨g1,Nat.zero_le _,hlen _,(fun h=>by cases h),fun _=>hqn⟩ O0_))))
   |false=>
    have hn1:=L8_ h1
    cases h2:decide (fkF L n>Int.ofNat (n-1))with
    |true=>
     have hqn:qq=none:=by rw[←g6];show cond (Nat.blt n 1||decide (fkF L n>Int.ofNat (n-1))) _ _=_;rw[h1,h2];rfl
     simp only[h7_,c7_,fold,fold2,h1,h2,br_t,br_f,e1,Nat.zero_add,hw]
     refine nd_ hR (nd_ hR ?_)
     exact nd_ c4 (nd_ c5 (hnx ⟨r,n-1,0,true,ps++[_]⟩ _ rfl ⟨by show n-1≤_;omega,Nat.zero_le _,hlen _,(fun h=>by cases h),fun _=>hqn⟩ O0_))
    |false=>
     have hd2:=of_decide_eq_false h2
     simp only[Int.ofNat_eq_natCast]at hd2
     have hle:kbF L n≤n-1:=by omega
     have c6:Nat.ble (kbF L n) (n-1)=true:=Nat.ble_eq_true_of_le hle
     have c7:(Nat.ble 0 (L.length-(n-1))&&Nat.ble (L.length-(n-1)+kbF L n) L.length)=true:=by rw[Nat.ble_eq_true_of_le (Nat.zero_le _),Nat.ble_eq_true_of_le (by omega)];rfl
     have g7:pfL L r (n-1-kbF L n) (ps++[pvF' L n])=qq:=by rw[←g6];show _=cond (Nat.blt n 1||decide (fkF L n>Int.ofNat (n-1))) _ _;rw[h1,h2];rfl
     have e7:L.length-(n-1)+kbF L n=L.length-(n-1-kbF L n):=by omega
     simp only[h7_,c7_,fold,fold2,h1,h2,br_t,br_f,e1,Nat.zero_add,Nat.add_zero,Nat.sub_zero,hw]
     refine nd_ hR (nd_ hR ?_)
     refine nd_ c0 (nd_ c6 (nd_ c0 (nd_ c6 (nd_ c0 (nd_ c6 (nd_ c0 (nd_ c6 (nd_ c7 (nd_ (ajn_ _ _ _) (nd_ c4 (nd_ c5 ?_)))))))))))
     rw[e7]
     exact hnx ⟨r,n-1-kbF L n,0,false,ps++[pvF' L n]⟩ _ rfl ⟨by show n-1-kbF L n≤_;omega,Nat.zero_le _,hlen _,fun _=>⟨rfl,g7⟩,(fun h=>by cases h)⟩ O0_
end Go.Proofs.YtachglcffimmeaaGreat.Ev
