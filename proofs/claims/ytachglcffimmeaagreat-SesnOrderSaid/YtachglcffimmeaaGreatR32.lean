/-
  What has to hold: printed by the evaluator.
-/
import Derived.Test.YtachglcffimmeaaGreatR31
import Derived.Test.YtachglcffimmeaaGreatR28
set_option linter.unusedVariables false
set_option maxRecDepth 1000000
set_option linter.unusedSimpArgs false
namespace Go.Proofs.YtachglcffimmeaaGreat.Ev
open Go Go.Proofs Go.RowKit
theorem anG_(L:List U8)(n c:Nat)(β:Bs)(K:AE→List (Option AObj)→Prop):lawE Tryz.prog toldZ3 100 20 β (fun _=>0) (cnOf 2 fun _=>[]) (fun _ _=>False) 32 [.pointer (some ⟨0,0,none⟩),.bool true] (mkS (viF L n c false)) (outC 2 K)=
 (fun(z9 z22:Nat) (z11:AE)=>((fun(z6:AObj)=>((fun(z0:List U8) (z29:Bool)=>((fun(z16 z21:Int) (z20 z31 z32 z33:Nat) (z23 z24 z25 z26 z27 z28:Addr)=>((fun(z7 z8 z13 z34:Int) (z12:List (Option AObj))=>((fun(z2 z5 z30:List U8) (z14:Td)=>((fun(z1:Int)=>((fun(z10 z15 z17 z18 z19:AE)=>((fun(z3:Prop)=>((fun(z4:Prop)=>(br (Nat.blt n 1) (need z29 (K z11 [some (.cells [.slice (some (Addr.mk 1 0 (some (List.length z0-n)))) n c,.bool true] true 0),some z6])) (need z29 (br (IntKind.wrap .i64 z16==(0:Int)) (K z11 [some (.cells [.slice (some z28) (n-1) 0,.bool false] true 0),some z6]) (br (decide (IntKind.wrap .i64 z16<(1:Int))) (K z11 z12) (br (decide (IntKind.wrap .i64 z16>(5:Int))) (K z11 z12) (need (decide ((0:Int)≤IntKind.wrap .i64 z16)) (br (Nat.beq (Int.toNat z7) 0) (need (Nat.ble 0 (List.length z0-(n-1)+0)&&Nat.ble z31 z22) (need (okA2 Int (Rw U8) (fun k r=>okTk k (Rw.l r)) [Ta.cell z14,Ta.cell (.fr 1 0 z9 fun i=>encL L (List.length z0-(n-1)+0+i))]) (br (!tkQ z1 []) (K z10 [some (.cells [.slice (some z23) (n-1-0) z9,.bool true] true 0),some z6]) (K z10 [some (.cells [.slice (some z23) (n-1-0) z9,.bool false] true 0),some z6])))) (br (Nat.beq (Int.toNat z7) 1) (br (decide ((1:Int)>Int.ofNat (n-1))) z3 (need (Nat.ble 1 (n-1)) (need (Nat.ble 1 (n-1)) (need (Nat.ble 0 (List.length z0-(n-1)+0)&&Nat.ble z32 z22) (need (okA2 Int (Rw U8) (fun k r=>okTk k (Rw.l r)) [Ta.cell z14,Ta.cell (.fr 1 1 z9 fun i=>encL L (List.length z0-(n-1)+0+i))]) (br (!tkQ z1 [U8.mk z8]) (K z17 [some (.cells [.slice (some z24) (n-1-1) z9,.bool true] true 0),some z6]) (K z17 [some (.cells [.slice (some z24) (n-1-1) z9,.bool false] true 0),some z6]))))))) (br (Nat.beq (Int.toNat z7) 2) (br (decide ((2:Int)>Int.ofNat (n-1))) z3 (need (Nat.ble 2 (n-1)) (need (Nat.ble 2 (n-1)) (need (Nat.ble 0 (List.length z0-(n-1)+0)&&Nat.ble z20 z22) (need (okA2 Int (Rw U8) (fun k r=>okTk k (Rw.l r)) [Ta.cell z14,Ta.cell (.fr 1 2 z9 fun i=>encL L (List.length z0-(n-1)+0+i))]) (br (!tkQ z1 z30) (K z15 [some (.cells [.slice (some z25) (n-1-2) z9,.bool true] true 0),some z6]) (K z15 [some (.cells [.slice (some z25) (n-1-2) z9,.bool false] true 0),some z6]))))))) (br (Nat.beq (Int.toNat z7) 3) (br (decide ((4:Int)>Int.ofNat (n-1))) z3 (need (Nat.ble 4 (n-1)) (need (Nat.ble 4 (n-1)) (need (Nat.ble 0 (List.length z0-(n-1)+0)&&Nat.ble z33 z22) (need (okA2 Int (Rw U8) (fun k r=>okTk k (Rw.l r)) [Ta.cell z14,Ta.cell (.fr 1 4 z9 fun i=>encL L (List.length z0-(n-1)+0+i))]) (br (!tkQ z1 z5) (K z18 [some (.cells [.slice (some z26) (n-1-4) z9,.bool true] true 0),some z6]) (K z18 [some (.cells [.slice (some z26) (n-1-4) z9,.bool false] true 0),some z6]))))))) (br (Nat.beq (Int.toNat z7) 4) z4 (need (Nat.beq (Int.toNat z7) 5) z4))))))))))))) (br (decide ((8:Int)>Int.ofNat (n-1))) z3 (need (Nat.ble 8 (n-1)) (need (Nat.ble 8 (n-1)) (need (Nat.ble 0 (List.length z0-(n-1)+0)&&Nat.ble (List.length z0-(n-1)+0+8) z22) (need (okA2 Int (Rw U8) (fun k r=>okTk k (Rw.l r)) [Ta.cell z14,Ta.cell (.fr 1 8 z9 fun i=>encL L (List.length z0-(n-1)+0+i))]) (br (!tkQ z1 z2) (K z19 [some (.cells [.slice (some z27) (n-1-8) z9,.bool true] true 0),some z6]) (K z19 [some (.cells [.slice (some z27) (n-1-8) z9,.bool false] true 0),some z6]))))))))) (need (okA2 Int (Rw U8) (fun k r=>okTk k (Rw.l r)) [Ta.cell z14,Ta.cell (.fr 0 0 1 noT)]) (br (!tkQ z1 []) (K z10 z12) (K z10 z12))))) (.returned (Value.agg (Array.mk [.int .i64 z1,.int .i64 (tkI z1 []),.float .f64 (tkF z1 [])]))) (.returned (Value.agg (Array.mk [.int .i64 z1,.int .i64 (tkI z1 z30),.float .f64 (tkF z1 z30)]))) (.returned (Value.agg (Array.mk [.int .i64 z1,.int .i64 (tkI z1 [U8.mk z8]),.float .f64 (tkF z1 [U8.mk z8])]))) (.returned (Value.agg (Array.mk [.int .i64 z1,
 .int .i64 (tkI z1 z5),.float .f64 (tkF z1 z5)]))) (.returned (Value.agg (Array.mk [.int .i64 z1,.int .i64 (tkI z1 z2),.float .f64 (tkF z1 z2)]))))) (ArgE.get (Ta.cell z14)))) [U8.mk z8,U8.mk z13,U8.mk z34,U8.mk z21,U8.mk (U8.v (List.getD L z33 Enc.dflt)),U8.mk (U8.v (List.getD L (List.length z0-(n-1)+0+5) Enc.dflt)),U8.mk (U8.v (List.getD L (List.length z0-(n-1)+0+6) Enc.dflt)),U8.mk (U8.v (List.getD L (List.length z0-(n-1)+0+7) Enc.dflt))] [U8.mk z8,U8.mk z13,U8.mk z34,U8.mk z21] [U8.mk z8,U8.mk z13] (.sc (.int .i64 z7)))) (IntKind.wrap .i64 z16) (U8.v (List.getD L z31 Enc.dflt)) (U8.v (List.getD L z32 Enc.dflt)) (U8.v (List.getD L z20 Enc.dflt)) [some (.cells [.slice (some z28) (n-1) 0,.bool true] true 0),some z6])) (Int.ofNat (beN z0 (List.length z0-n) 1)) (U8.v (List.getD L (List.length z0-(n-1)+0+3) Enc.dflt)) (List.length z0-(n-1)+0+2) (List.length z0-(n-1)+0+0) (List.length z0-(n-1)+0+1) (List.length z0-(n-1)+0+4) (Addr.mk 1 0 (some (List.length z0-(n-1)+0))) (Addr.mk 1 0 (some (List.length z0-(n-1)+1))) (Addr.mk 1 0 (some (List.length z0-(n-1)+2))) (Addr.mk 1 0 (some (List.length z0-(n-1)+4))) (Addr.mk 1 0 (some (List.length z0-(n-1)+8))) (Addr.mk 1 0 (some (List.length z0-(n-1)))))) (rowL U8 (rowN (some z6)) (some z6)) (rfB (some z6) (List.length L-n) n c))) (.row .look 1 0 z22 (encL L)))) (bif Nat.beq (n-1) 0 then 0 else 0) L.length (.returned (Value.agg (Array.mk [.int .i64 (0:Int),.int .i64 (0:Int),.float .f64 0]))):=by kernel_rfl
theorem anH_(L:List U8)(n c:Nat)(β:Bs)(K:AE→List (Option AObj)→Prop):lawE Tryz.prog toldZ3 100 20 β (fun _=>0) (cnOf 2 fun _=>[]) (fun _ _=>False) 32 [.pointer (some ⟨0,0,none⟩),.bool false] (mkS (viF L n c false)) (outC 2 K)=
 (fun(z10 z23:Nat) (z14:AE)=>((fun(z8:AObj)=>((fun(z0:List U8) (z29:Bool)=>((fun(z12:List (Option AObj)) (z17 z22:Int) (z21 z31 z32 z33:Nat) (z24 z25 z26 z27 z28:Addr)=>((fun(z7 z9 z13 z34:Int)=>((fun(z3 z6 z30:List U8) (z15:Td)=>((fun(z2:Int)=>((fun(z11 z16 z18 z19 z20:AE)=>((fun(z4:Prop)=>((fun(z5:Prop)=>((fun(z1:Prop)=>(br (Nat.blt n 1) (need z29 (K z14 [some (.cells [.slice (some (Addr.mk 1 0 (some (List.length z0-n)))) n c,.bool true] true 0),some z8])) (need z29 (br (IntKind.wrap .i64 z17==(0:Int)) z1 z1)))) (br (decide (IntKind.wrap .i64 z17<(1:Int))) (K z14 z12) (br (decide (IntKind.wrap .i64 z17>(5:Int))) (K z14 z12) (need (decide ((0:Int)≤IntKind.wrap .i64 z17)) (br (Nat.beq (Int.toNat z7) 0) (need (Nat.ble 0 (List.length z0-(n-1)+0)&&Nat.ble z31 z23) (need (okA2 Int (Rw U8) (fun k r=>okTk k (Rw.l r)) [Ta.cell z15,Ta.cell (.fr 1 0 z10 fun i=>encL L (List.length z0-(n-1)+0+i))]) (br (!tkQ z2 []) (K z11 [some (.cells [.slice (some z24) (n-1-0) z10,.bool true] true 0),some z8]) (K z11 [some (.cells [.slice (some z24) (n-1-0) z10,.bool false] true 0),some z8])))) (br (Nat.beq (Int.toNat z7) 1) (br (decide ((1:Int)>Int.ofNat (n-1))) z4 (need (Nat.ble 1 (n-1)) (need (Nat.ble 1 (n-1)) (need (Nat.ble 0 (List.length z0-(n-1)+0)&&Nat.ble z32 z23) (need (okA2 Int (Rw U8) (fun k r=>okTk k (Rw.l r)) [Ta.cell z15,Ta.cell (.fr 1 1 z10 fun i=>encL L (List.length z0-(n-1)+0+i))]) (br (!tkQ z2 [U8.mk z9]) (K z18 [some (.cells [.slice (some z25) (n-1-1) z10,.bool true] true 0),some z8]) (K z18 [some (.cells [.slice (some z25) (n-1-1) z10,.bool false] true 0),some z8]))))))) (br (Nat.beq (Int.toNat z7) 2) (br (decide ((2:Int)>Int.ofNat (n-1))) z4 (need (Nat.ble 2 (n-1)) (need (Nat.ble 2 (n-1)) (need (Nat.ble 0 (List.length z0-(n-1)+0)&&Nat.ble z21 z23) (need (okA2 Int (Rw U8) (fun k r=>okTk k (Rw.l r)) [Ta.cell z15,Ta.cell (.fr 1 2 z10 fun i=>encL L (List.length z0-(n-1)+0+i))]) (br (!tkQ z2 z30) (K z16 [some (.cells [.slice (some z26) (n-1-2) z10,.bool true] true 0),some z8]) (K z16 [some (.cells [.slice (some z26) (n-1-2) z10,.bool false] true 0),some z8]))))))) (br (Nat.beq (Int.toNat z7) 3) (br (decide ((4:Int)>Int.ofNat (n-1))) z4 (need (Nat.ble 4 (n-1)) (need (Nat.ble 4 (n-1)) (need (Nat.ble 0 (List.length z0-(n-1)+0)&&Nat.ble z33 z23) (need (okA2 Int (Rw U8) (fun k r=>okTk k (Rw.l r)) [Ta.cell z15,Ta.cell (.fr 1 4 z10 fun i=>encL L (List.length z0-(n-1)+0+i))]) (br (!tkQ z2 z6) (K z19 [some (.cells [.slice (some z27) (n-1-4) z10,.bool true] true 0),some z8]) (K z19 [some (.cells [.slice (some z27) (n-1-4) z10,.bool false] true 0),some z8]))))))) (br (Nat.beq (Int.toNat z7) 4) z5 (need (Nat.beq (Int.toNat z7) 5) z5))))))))))) (br (decide ((8:Int)>Int.ofNat (n-1))) z4 (need (Nat.ble 8 (n-1)) (need (Nat.ble 8 (n-1)) (need (Nat.ble 0 (List.length z0-(n-1)+0)&&Nat.ble (List.length z0-(n-1)+0+8) z23) (need (okA2 Int (Rw U8) (fun k r=>okTk k (Rw.l r)) [Ta.cell z15,Ta.cell (.fr 1 8 z10 fun i=>encL L (List.length z0-(n-1)+0+i))]) (br (!tkQ z2 z3) (K z20 [some (.cells [.slice (some z28) (n-1-8) z10,.bool true] true 0),some z8]) (K z20 [some (.cells [.slice (some z28) (n-1-8) z10,.bool false] true 0),some z8]))))))))) (need (okA2 Int (Rw U8) (fun k r=>okTk k (Rw.l r)) [Ta.cell z15,Ta.cell (.fr 0 0 1 noT)]) (br (!tkQ z2 []) (K z11 z12) (K z11 z12))))) (.returned (Value.agg (Array.mk [.int .i64 z2,.int .i64 (tkI z2 []),.float .f64 (tkF z2 [])]))) (.returned (Value.agg (Array.mk [.int .i64 z2,.int .i64 (tkI z2 z30),.float .f64 (tkF z2 z30)]))) (.returned (Value.agg (Array.mk [.int .i64 z2,.int .i64 (tkI z2 [U8.mk z9]),.float .f64 (tkF z2 [U8.mk z9])]))) (.returned (Value.agg (Array.mk [.int .i64 z2,.int .i64 (tkI z2 z6),.float .f64 (tkF
 z2 z6)]))) (.returned (Value.agg (Array.mk [.int .i64 z2,.int .i64 (tkI z2 z3),.float .f64 (tkF z2 z3)]))))) (ArgE.get (Ta.cell z15)))) [U8.mk z9,U8.mk z13,U8.mk z34,U8.mk z22,U8.mk (U8.v (List.getD L z33 Enc.dflt)),U8.mk (U8.v (List.getD L (List.length z0-(n-1)+0+5) Enc.dflt)),U8.mk (U8.v (List.getD L (List.length z0-(n-1)+0+6) Enc.dflt)),U8.mk (U8.v (List.getD L (List.length z0-(n-1)+0+7) Enc.dflt))] [U8.mk z9,U8.mk z13,U8.mk z34,U8.mk z22] [U8.mk z9,U8.mk z13] (.sc (.int .i64 z7)))) (IntKind.wrap .i64 z17) (U8.v (List.getD L z31 Enc.dflt)) (U8.v (List.getD L z32 Enc.dflt)) (U8.v (List.getD L z21 Enc.dflt)))) [some (.cells [.slice (some (Addr.mk 1 0 (some (List.length z0-(n-1))))) (n-1) 0,.bool true] true 0),some z8] (Int.ofNat (beN z0 (List.length z0-n) 1)) (U8.v (List.getD L (List.length z0-(n-1)+0+3) Enc.dflt)) (List.length z0-(n-1)+0+2) (List.length z0-(n-1)+0+0) (List.length z0-(n-1)+0+1) (List.length z0-(n-1)+0+4) (Addr.mk 1 0 (some (List.length z0-(n-1)+0))) (Addr.mk 1 0 (some (List.length z0-(n-1)+1))) (Addr.mk 1 0 (some (List.length z0-(n-1)+2))) (Addr.mk 1 0 (some (List.length z0-(n-1)+4))) (Addr.mk 1 0 (some (List.length z0-(n-1)+8))))) (rowL U8 (rowN (some z8)) (some z8)) (rfB (some z8) (List.length L-n) n c))) (.row .look 1 0 z23 (encL L)))) (bif Nat.beq (n-1) 0 then 0 else 0) L.length (.returned (Value.agg (Array.mk [.int .i64 (0:Int),.int .i64 (0:Int),.float .f64 0]))):=by kernel_rfl
theorem akJ_(L:List U8)(n c:Nat)(β:Bs)(K:AE→List (Option AObj)→Prop):lawE Tryz.prog toldZ3 100 20 β (fun _=>0) (cnOf 2 fun _=>[]) (fun _ _=>False) 32 [.pointer (some ⟨0,0,none⟩),.bool true] (mkS (viF L n c true)) (outC 2 K)=
 (fun(z0:AObj)=>(need (rfB (some z0) (List.length L-n) n c) (K (.returned (Value.agg (Array.mk [.int .i64 (0:Int),.int .i64 (0:Int),.float .f64 0]))) [some (.cells [.slice (some (Addr.mk 1 0 (some (List.length (rowL U8 (rowN (some z0)) (some z0))-n)))) n c,.bool true] true 0),some z0]))) (.row .look 1 0 L.length (encL L)):=by kernel_rfl
theorem akK_(L:List U8)(n c:Nat)(β:Bs)(K:AE→List (Option AObj)→Prop):lawE Tryz.prog toldZ3 100 20 β (fun _=>0) (cnOf 2 fun _=>[]) (fun _ _=>False) 32 [.pointer (some ⟨0,0,none⟩),.bool false] (mkS (viF L n c true)) (outC 2 K)=
 (fun(z0:AObj)=>(need (rfB (some z0) (List.length L-n) n c) (K (.returned (Value.agg (Array.mk [.int .i64 (0:Int),.int .i64 (0:Int),.float .f64 0]))) [some (.cells [.slice (some (Addr.mk 1 0 (some (List.length (rowL U8 (rowN (some z0)) (some z0))-n)))) n c,.bool true] true 0),some z0]))) (.row .look 1 0 L.length (encL L)):=by kernel_rfl
def mdL(L:List U8)(i w:Nat):List U8:=(List.range w).map fun j=>L.getD (i+j) Enc.dflt
def fkF(L:List U8)(n:Nat):Int:=IntKind.wrap .i64 (Int.ofNat (beN L (L.length-n) 1))
def fpF(L:List U8)(n:Nat):List U8:=mdL L (L.length-(n-1)) (wiK (fkF L n))
def frF(L:List U8)(n:Nat):Bool:=decide (fkF L n<1)||decide (fkF L n>5)
def fsF(L:List U8)(n:Nat):Bool:=Nat.blt (n-1) (wiK (fkF L n))
def vlA(k i:Int)(f:Nat):AE:= .returned (.agg ⟨[.int .i64 k,.int .i64 i,.float .f64 f]⟩)
def c3{α:Type}(n:Nat)(r s:Bool)(a b c d:α):α:=cond (Nat.blt n 1) a (cond r b (cond s c d))
def fvF(nz:Bool):RfA where
 off L n c:=⟨true,vlA 0 0 0,L.length-n,n,c,true⟩
 bd L n:=Nat.blt n 1||cond (nz&&fkF L n==0) false (frF L n||(fsF L n|| !tkQ (fkF L n) (fpF L n)))
 bad L n c:=⟨true,vlA (c3 n (frF L n) (fsF L n) 0 0 (fkF L n) (fkF L n)) (c3 n (frF L n) (fsF L n) 0 0 (tkI (fkF L n) []) (tkI (fkF L n) (fpF L n))) (c3 n (frF L n) (fsF L n) 0 0 (tkF (fkF L n) []) (tkF (fkF L n) (fpF L n))),L.length-c3 n (frF L n) (fsF L n) n (n-1) (n-1) (n-1-wiK (fkF L n)),c3 n (frF L n) (fsF L n) n (n-1) (n-1) (n-1-wiK (fkF L n)),cond (Nat.blt n 1) c 0,true⟩
 good L n:=⟨true,vlA (cond (fkF L n==0) 0 (fkF L n)) (cond (fkF L n==0) 0 (tkI (fkF L n) (fpF L n))) (cond (fkF L n==0) 0 (tkF (fkF L n) (fpF L n))),L.length-cond (fkF L n==0) (n-1) (n-1-wiK (fkF L n)),cond (fkF L n==0) (n-1) (n-1-wiK (fkF L n)),0,false⟩
def deFv:RfD:=fun xs=>match xs with
 |[.bool nz]=>some (fvF nz)
 |_=>none
theorem h7_(k:Rk)(es lo m:Nat)(g:Nat→Nat→Td):rowN (some (.row k es lo m g))=m:=rfl
theorem a7_{L:List U8}{n c:Nat}(hL:L.all (okA U8)=true)(hl:L.length≤1000000)(hn:n≤L.length)(hc:c≤1):rfB (some (.row .look 1 0 L.length (encL L))) (L.length-n) n c=true:=by
 unfold rfB
 have hB:rowB U8 L.length 0 (some (.row .look 1 0 L.length (encL L)))=true:=N4_ .look rfl rfl hL hl (by omega)
 rw[h7_,c7_,hB,hL,Nat.beq_refl,Nat.ble_eq_true_of_le hn,Nat.ble_eq_true_of_le hc];rfl
theorem akg_{L:List U8}(hL:L.all (okA U8)=true)(n:Nat):fkF L n=((beN L (L.length-n) 1:Nat):Int):=by
 have:=Y6_ hL (L.length-n) 1
 unfold fkF
 rw[Int.ofNat_eq_natCast,w64 (by omega) (by omega)]
def AtK(F:RdA)(K:AE→List (Option AObj)→Prop):Prop:= ∀m:List (Option AObj),m[0]? =some (some (rdO F.i F.n F.c F.q))→K F.ret m
theorem aip_{k:Int}(h1:1≤k)(h5:k≤5):okA2 Int (Rw U8) (fun k r=>okTk k (Rw.l r)) [.cell (.sc (.int .i64 k)),.cell (.fr 0 0 1 noT)]=true:=by
 show(true&&true&&(decide (1≤k)&&decide (k≤5)&&true&&(Nat.beq 0 (wiK k)||true)))=true
 rw[decide_eq_true h1,decide_eq_true h5,Bool.or_true];rfl
theorem aiq_{L:List U8}{k:Int}{i w c:Nat}(hL:L.all (okA U8)=true)(hl:L.length≤1000000)(h1:1≤k)(h5:k≤5)(hw:wiK k=w)(hi:i+w≤L.length)(hc:c≤1):okA2 Int (Rw U8) (fun k r=>okTk k (Rw.l r)) [.cell (.sc (.int .i64 k)),.cell (.fr 1 w c fun j=>encL L (i+j))]=true:=by
 show(true&&okT U8 (Td.fr 1 w c fun j=>encL L (i+j))&&okTk k (a4_ U8 (Td.fr 1 w c fun j=>encL L (i+j))))=true
 rw[aaz_ hL hi (by omega) hc,u4_ L c hi]
 unfold okTk
 rw[P0_ hL,afH_ L hi,hw,Nat.beq_refl,decide_eq_true h1,decide_eq_true h5];rfl
theorem j2_{nz:Bool}{L:List U8}{n c w:Nat}{K:AE→List (Option AObj)→Prop}{p:List U8}(hw:wiK (fkF L n)=w)(h1:1≤fkF L n)(h5:fkF L n≤5)(hn0:1≤n)(hn:n≤L.length)(hL:L.all (okA U8)=true)(hl:L.length≤1000000)(hp:p=mdL L (L.length-(n-1)) w)
  (hK:AtK ((fvF nz).at L n c false) K) {o:Option AObj}:
  br (decide ((w:Int)>Int.ofNat (n-1))) (need (okA2 Int (Rw U8) (fun k r=>okTk k (Rw.l r)) [.cell (.sc (.int .i64 (fkF L n))),.cell (.fr 0 0 1 noT)]) (br (!tkQ (fkF L n) []) (K (vlA (fkF L n) (tkI (fkF L n) []) (tkF (fkF L n) [])) [some (rdO (L.length-(n-1)) (n-1) 0 true),o]) (K (vlA (fkF L n) (tkI (fkF L n) []) (tkF (fkF L n) [])) [some (rdO (L.length-(n-1)) (n-1) 0 true),o])))
   (need (Nat.ble w (n-1)) (need (Nat.ble w (n-1)) (need (Nat.ble 0 (L.length-(n-1))&&Nat.ble (L.length-(n-1)+w) L.length) (need (okA2 Int (Rw U8) (fun k r=>okTk k (Rw.l r)) [.cell (.sc (.int .i64 (fkF L n))),.cell (.fr 1 w (bif Nat.beq (n-1) 0 then 0 else 0) fun i=>encL L (L.length-(n-1)+i))]) (br (!tkQ (fkF L n) p) (K (vlA (fkF L n) (tkI (fkF L n) p) (tkF (fkF L n) p)) [some (rdO (L.length-(n-1)+w) (n-1-w) (bif Nat.beq (n-1) 0 then 0 else 0) true),o]) (K (vlA (fkF L n) (tkI (fkF L n) p) (tkF (fkF L n) p)) [some (rdO (L.length-(n-1)+w) (n-1-w) (bif Nat.beq (n-1) 0 then 0 else 0) false),o])))))):=by
 have e1:Nat.blt n 1=false:=by rw[Bool.eq_false_iff];intro h;have:=Nat.le_of_ble_eq_true h;omega
 have e2:frF L n=false:=by unfold frF;rw[decide_eq_false (by omega),decide_eq_false (by omega)];rfl
 have e3:(fkF L n==0)=false:=by rw[Bool.eq_false_iff];intro h;have:=eq_of_beq h;omega
 have e4:(nz&&fkF L n==0)=false:=by rw[e3,Bool.and_false]
 have hpf:fpF L n=p:=by unfold fpF;rw[hw,hp]
 have e5:(bif Nat.beq (n-1) 0 then 0 else 0)=0:=by cases Nat.beq (n-1) 0<;>rfl
 rw[e5]
 unfold AtK RfA.at fvF at hK
 simp only[e1,e2,e3,Bool.and_false,c3,cond_false,Bool.false_or,hpf,hw]at hK
 refine a0_ (fun hd=>nd_ (aip_ h1 h5) ?_) (fun hd=> ?_)
 ·have hd:=of_decide_eq_true hd
  simp only[Int.ofNat_eq_natCast]at hd
  have e6:fsF L n=true:=by unfold fsF;rw[hw];simp;omega
  simp only[e6,Bool.true_or,cond_true]at hK
  have:=hK [some (rdO (L.length-(n-1)) (n-1) 0 true),o] rfl
  exact a0_ (fun _=>this) (fun _=>this)
 ·have hd:=of_decide_eq_false hd
  simp only[Int.ofNat_eq_natCast]at hd
  have e6:fsF L n=false:=by unfold fsF;rw[hw,Bool.eq_false_iff];intro h;have:=Nat.le_of_ble_eq_true h;omega
  have hle:w≤n-1:=by omega
  have hle2:L.length-(n-1)+w≤L.length:=by omega
  have e7:L.length-(n-1)+w=L.length-(n-1-w):=by omega
  simp only[e6,Bool.false_or,cond_false]at hK
  refine nd_ (Nat.ble_eq_true_of_le hle) (nd_ (Nat.ble_eq_true_of_le hle) (nd_ (by rw[Nat.ble_eq_true_of_le hle2];simp) (nd_ (aiq_ hL hl h1 h5 hw hle2 (Nat.zero_le _)) (a0_ (fun hq=> ?_) (fun hq=> ?_)))))
  ·simp only[hq,cond_true]at hK
   rw[e7]
   exact hK _ rfl
  ·simp only[hq,cond_false]at hK
   rw[e7]
   exact hK _ rfl
theorem L8_{n:Nat}(h:Nat.blt n 1=false):1≤n:=by
 cases n with
 |zero=>cases h
 |succ n=>omega
theorem akf_{nz:Bool}{L:List U8}{n c:Nat}{K:AE→List (Option AObj)→Prop}(h:Nat.blt n 1=true)(hK:AtK ((fvF nz).at L n c false) K){o:Option AObj}:K (vlA 0 0 0) [some (rdO (L.length-n) n c true),o]:=by
 unfold AtK RfA.at fvF at hK
 simp only[h,c3,cond_false,cond_true,Bool.true_or]at hK
 exact hK _ rfl
theorem aoH_{L:List U8}{n c:Nat}{K:AE→List (Option AObj)→Prop}(h:Nat.blt n 1=false)(h0:(fkF L n==0)=true)(hK:AtK ((fvF true).at L n c false) K){o:Option AObj}:K (vlA 0 0 0) [some (rdO (L.length-(n-1)) (n-1) 0 false),o]:=by
 unfold AtK RfA.at fvF at hK
 simp only[h,h0,c3,cond_false,cond_true,Bool.false_or,Bool.and_self]at hK
 exact hK _ rfl
theorem ake_{nz:Bool}{L:List U8}{n c:Nat}{K:AE→List (Option AObj)→Prop}(h:Nat.blt n 1=false)(h0:(nz&&fkF L n==0)=false)(hr:frF L n=true)(hK:AtK ((fvF nz).at L n c false) K){o:Option AObj}:K (vlA 0 0 0) [some (rdO (L.length-(n-1)) (n-1) 0 true),o]:=by
 unfold AtK RfA.at fvF at hK
 simp only[h,h0,hr,c3,cond_false,cond_true,Bool.false_or,Bool.true_or]at hK
 exact hK _ rfl
theorem adU_:q2_ aau_ Tryz.prog 32 (pickS (spRf deFv)):=by
 refine aeN_ (fun xs F L n c q hd hL hl hn hc=> ?_) (fun xs F L n c q hd=> ?_)
 ·unfold deFv at hd
  split at hd
  ·rename_i nz
   cases hd
   refine⟨toldZ3,100,20,fun _=>0,fun _=>[],fun _ _=>False,toldZ3_ok,fun β _ K hK=> ?_⟩
   have hK:AtK ((fvF nz).at L n c q) K:=hK
   have hB:=a7_ hL hl hn hc
   have hfk:=akg_ hL n
   cases q with
   |true=>cases nz with
    |true=>
     refine(akJ_ L n c β K).mpr ?_
     simp only[h7_,c7_]
     exact nd_ hB (hK _ rfl)
    |false=>
     refine(akK_ L n c β K).mpr ?_
     simp only[h7_,c7_]
     exact nd_ hB (hK _ rfl)
   |false=>
    have legs: ∀{N:Prop},Nat.blt n 1=false→(nz&&fkF L n==0)=false→((1≤fkF L n→fkF L n≤5→N)→br (decide (fkF L n<1)) (K (vlA 0 0 0) [some (rdO (L.length-(n-1)) (n-1) 0 true),some (rowO .look L)]) (br (decide (fkF L n>5)) (K (vlA 0 0 0) [some (rdO (L.length-(n-1)) (n-1) 0 true),some (rowO .look L)]) N)):=fun{N} hn1 h0 hN=>a0_ (fun hlt=>ake_ hn1 h0 (by unfold frF;rw[hlt];rfl) hK) (fun hlt=>a0_ (fun hgt=>ake_ hn1 h0 (by unfold frF;rw[hgt,Bool.or_true]) hK) (fun hgt=>hN (by have:=of_decide_eq_false hlt;omega) (by have:=of_decide_eq_false hgt;omega)))
    have hw: ∀k:Nat,fkF L n=(k:Int)→wiK (fkF L n)=wiK (k:Int):=fun k h=>by rw[h]
    cases nz with
    |true=>
     refine(anG_ L n c β K).mpr ?_
     simp only[h7_,c7_,Nat.add_zero]
     refine a0_ (fun h=>nd_ hB (akf_ h hK)) (fun hn1=>nd_ hB (a0_ (fun h0=>aoH_ hn1 h0 hK) (fun h0=> ?_)))
     refine legs hn1 (by show(true&&fkF L n==0)=false;exact h0) fun h1 h5=> ?_
     have hn1':=L8_ hn1
     refine nd_ (decide_eq_true (by show(0:Int)≤fkF L n;omega)) (a0_ (fun hk=> ?_) (fun k0=>a0_ (fun hk=> ?_) (fun k1=>a0_ (fun hk=> ?_) (fun k2=>a0_ (fun hk=> ?_) (fun k3=>a0_ (fun hk=> ?_) (fun k4=> ?_))))))
     ·have hk:(fkF L n).toNat=0:=Nat.eq_of_beq_eq_true hk
      omega
     ·have hk:(fkF L n).toNat=1:=Nat.eq_of_beq_eq_true hk
      exact j2_ (nz:=true) (w:=1) (by rw[show fkF L n=1 by omega];rfl) h1 h5 hn1' hn hL hl rfl hK
     ·have hk:(fkF L n).toNat=2:=Nat.eq_of_beq_eq_true hk
      exact j2_ (nz:=true) (w:=2) (by rw[show fkF L n=2 by omega];rfl) h1 h5 hn1' hn hL hl rfl hK
     ·have hk:(fkF L n).toNat=3:=Nat.eq_of_beq_eq_true hk
      exact j2_ (nz:=true) (w:=4) (by rw[show fkF L n=3 by omega];rfl) h1 h5 hn1' hn hL hl rfl hK
     ·have hk:(fkF L n).toNat=4:=Nat.eq_of_beq_eq_true hk
      exact j2_ (nz:=true) (w:=8) (by rw[show fkF L n=4 by omega];rfl) h1 h5 hn1' hn hL hl rfl hK
     ·have q0:(fkF L n).toNat≠0:=Nat.ne_of_beq_eq_false k0
      have q1:(fkF L n).toNat≠1:=Nat.ne_of_beq_eq_false k1
      have q2:(fkF L n).toNat≠2:=Nat.ne_of_beq_eq_false k2
      have q3:(fkF L n).toNat≠3:=Nat.ne_of_beq_eq_false k3
      have q4:(fkF L n).toNat≠4:=Nat.ne_of_beq_eq_false k4
      have hk:(fkF L n).toNat=5:=by omega
      refine nd_ (by show Nat.beq (fkF L n).toNat 5=true;rw[hk];rfl) ?_
      exact j2_ (nz:=true) (w:=8) (by rw[show fkF L n=5 by omega];rfl) h1 h5 hn1' hn hL hl rfl hK
    |false=>
     refine(anH_ L n c β K).mpr ?_
     simp only[h7_,c7_,Nat.add_zero]
     refine a0_ (fun h=>nd_ hB (akf_ h hK)) (fun hn1=>nd_ hB ?_)
     have hn1':=L8_ hn1
     refine a0_ (fun _=> ?_) (fun _=> ?_)
     ·refine legs hn1 rfl fun h1 h5=> ?_
      refine nd_ (decide_eq_true (by show(0:Int)≤fkF L n;omega)) (a0_ (fun hk=> ?_) (fun k0=>a0_ (fun hk=> ?_) (fun k1=>a0_ (fun hk=> ?_) (fun k2=>a0_ (fun hk=> ?_) (fun k3=>a0_ (fun hk=> ?_) (fun k4=> ?_))))))
      ·have hk:(fkF L n).toNat=0:=Nat.eq_of_beq_eq_true hk
       omega
      ·have hk:(fkF L n).toNat=1:=Nat.eq_of_beq_eq_true hk
       exact j2_ (nz:=false) (w:=1) (by rw[show fkF L n=1 by omega];rfl) h1 h5 hn1' hn hL hl rfl hK
      ·have hk:(fkF L n).toNat=2:=Nat.eq_of_beq_eq_true hk
       exact j2_ (nz:=false) (w:=2) (by rw[show fkF L n=2 by omega];rfl) h1 h5 hn1' hn hL hl rfl hK
      ·have hk:(fkF L n).toNat=3:=Nat.eq_of_beq_eq_true hk
       exact j2_ (nz:=false) (w:=4) (by rw[show fkF L n=3 by omega];rfl) h1 h5 hn1' hn hL hl rfl hK
      ·have hk:(fkF L n).toNat=4:=Nat.eq_of_beq_eq_true hk
       exact j2_ (nz:=false) (w:=8) (by rw[show fkF L n=4 by omega];rfl) h1 h5 hn1' hn hL hl rfl hK
      ·have q0:(fkF L n).toNat≠0:=Nat.ne_of_beq_eq_false k0
       have q1:(fkF L n).toNat≠1:=Nat.ne_of_beq_eq_false k1
       have q2:(fkF L n).toNat≠2:=Nat.ne_of_beq_eq_false k2
       have q3:(fkF L n).toNat≠3:=Nat.ne_of_beq_eq_false k3
       have q4:(fkF L n).toNat≠4:=Nat.ne_of_beq_eq_false k4
       have hk:(fkF L n).toNat=5:=by omega
       refine nd_ (by show Nat.beq (fkF L n).toNat 5=true;rw[hk];rfl) ?_
       exact j2_ (nz:=false) (w:=8) (by rw[show fkF L n=5 by omega];rfl) h1 h5 hn1' hn hL hl rfl hK
     ·refine legs hn1 rfl fun h1 h5=> ?_
      refine nd_ (decide_eq_true (by show(0:Int)≤fkF L n;omega)) (a0_ (fun hk=> ?_) (fun k0=>a0_ (fun hk=> ?_) (fun k1=>a0_ (fun hk=> ?_) (fun k2=>a0_ (fun hk=> ?_) (fun k3=>a0_ (fun hk=> ?_) (fun k4=> ?_))))))
      ·have hk:(fkF L n).toNat=0:=Nat.eq_of_beq_eq_true hk
       omega
      ·have hk:(fkF L n).toNat=1:=Nat.eq_of_beq_eq_true hk
       exact j2_ (nz:=false) (w:=1) (by rw[show fkF L n=1 by omega];rfl) h1 h5 hn1' hn hL hl rfl hK
      ·have hk:(fkF L n).toNat=2:=Nat.eq_of_beq_eq_true hk
       exact j2_ (nz:=false) (w:=2) (by rw[show fkF L n=2 by omega];rfl) h1 h5 hn1' hn hL hl rfl hK
      ·have hk:(fkF L n).toNat=3:=Nat.eq_of_beq_eq_true hk
       exact j2_ (nz:=false) (w:=4) (by rw[show fkF L n=3 by omega];rfl) h1 h5 hn1' hn hL hl rfl hK
      ·have hk:(fkF L n).toNat=4:=Nat.eq_of_beq_eq_true hk
       exact j2_ (nz:=false) (w:=8) (by rw[show fkF L n=4 by omega];rfl) h1 h5 hn1' hn hL hl rfl hK
      ·have q0:(fkF L n).toNat≠0:=Nat.ne_of_beq_eq_false k0
       have q1:(fkF L n).toNat≠1:=Nat.ne_of_beq_eq_false k1
       have q2:(fkF L n).toNat≠2:=Nat.ne_of_beq_eq_false k2
       have q3:(fkF L n).toNat≠3:=Nat.ne_of_beq_eq_false k3
       have q4:(fkF L n).toNat≠4:=Nat.ne_of_beq_eq_false k4
       have hk:(fkF L n).toNat=5:=by omega
       refine nd_ (by show Nat.beq (fkF L n).toNat 5=true;rw[hk];rfl) ?_
       exact j2_ (nz:=false) (w:=8) (by rw[show fkF L n=5 by omega];rfl) h1 h5 hn1' hn hL hl rfl hK
  ·cases hd
 ·unfold deFv at hd
  split at hd
  ·cases hd
   unfold RfA.at fvF
   cases q with
   |true=>rfl
   |false=>
    show bkE _ (cond ((fvF _).bd L n) ((fvF _).bad L n c) ((fvF _).good L n)).ret=(cond ((fvF _).bd L n) ((fvF _).bad L n c) ((fvF _).good L n)).ret
    cases(fvF _).bd L n<;>rfl
  ·cases hd
def toldZ4:Told:=toldZ3.effT 32 (spRf deFv)
theorem toldZ4_ok:a8_ Tryz.prog toldZ4:=Told.effT_okG M8_ follows toldZ3_ok adU_
end Go.Proofs.YtachglcffimmeaaGreat.Ev
