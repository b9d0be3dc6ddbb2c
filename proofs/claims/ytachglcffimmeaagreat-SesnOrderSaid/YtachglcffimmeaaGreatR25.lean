/-
  What has to hold: printed by the evaluator.
-/
import Derived.Test.YtachglcffimmeaaGreatR24
set_option linter.unusedVariables false
set_option maxRecDepth 1000000
set_option linter.unusedSimpArgs false
namespace Go.Proofs.YtachglcffimmeaaGreat.Ev
open Go Go.Proofs Go.RowKit
def slPm(b:Nat):List Nat:=cond (Nat.beq b 0) [1,3,4] [1,3,5]
def lvPm(b:Nat):AX→List Nat:=fun _=>slPm b
def FP0(n:Nat)(i:Int):AFr:=mkF 107 [(1,.pointer (some ⟨2,0,none⟩)),(3,.slice (some ⟨3,0,some 0⟩) n 1),(4,.int .i64 i)]
def FP2(n:Nat)(i:Int):AFr:=mkF 107 [(1,.pointer (some ⟨2,0,none⟩)),(3,.slice (some ⟨3,0,some 0⟩) n 1),(5,.int .i64 i)]
def SPm(m:Ms)(B:List U8):ASt:=mkS [some (rowO .look m.ps),some (rowO .look m.vs),some (amC m 0 1),some (rowO .mine B)]
def strL(s:ByteArray):List U8:=(List.range s.size).map fun i=>⟨Int.ofNat (strB s i)⟩
def ptL(s:St):List U8:=⟨IntKind.wrap .u8 (Int.ofNat s.s.size)⟩::strL s.s
def bdL(v:Vl):List U8:=cond (v.k==0) [⟨0⟩] (pvL v)
def hdM(m:Ms):List U8:=[⟨IntKind.wrap .u8 m.k⟩]++hi2 (IntKind.wrap .u64 m.id)++hi2 (IntKind.wrap .u64 m.n)++hi2 (IntKind.wrap .u64 m.sq)++[⟨IntKind.wrap .u8 m.er⟩,⟨cond m.lo 1 0⟩]++hi8 (IntKind.wrap .u64 m.ev)++bdL m.bd++[⟨IntKind.wrap .u8 (Int.ofNat m.ps.length)⟩]
def pmP(m:Ms):List U8:=hdM m++m.ps.flatMap ptL
def pmV(m:Ms):List U8:=(pmP m++[⟨IntKind.wrap .u8 (Int.ofNat m.vs.length)⟩])++m.vs.flatMap pvL
def exP0(m:Ms):Nat→Kt→Prop:=fun b K=>K (.exit b) (FP0 (pmP m).length (Int.ofNat m.ps.length)) (SPm m (pmP m))
def exP2(m:Ms):Nat→Kt→Prop:=fun b K=>K (.exit b) (FP2 (pmV m).length (Int.ofNat m.vs.length)) (SPm m (pmV m))
def exPm(m:Ms):Nat→Kt→Prop:=fun b=>cond (Nat.beq b 0) (exP0 m b) (exP2 m b)
theorem akC_(m:Ms)(B:List U8)(i:Int)(β:Bs)(Nx:Kt):c0_ Tryz.prog toldM4 100 20 β (fun _=>0) (cnOf 2 slPm) (fun _ _=>False) 34 0 2 (lvPm 0) (FP0 B.length i) (SPm m B) Nx=
 (fun(z2 z4 z8 z9:Nat) (z5:AObj)=>((fun(z0 z7:AObj) (z1:ByteArray) (z6 z10:Bool)=>((fun(z3:Nat)=>(br (decide (i<Int.ofNat z2)) (need (decide ((0:Int)≤i)) (need z10 (need z6 (need (Nat.ble z4 1000000) (need (true&&Nat.ble (0+List.length B) z8) (need (decide ((0:Int)≤i)) (need z10 (need z6 (need (Nat.ble z3 1000000) (need (true&&Nat.ble (0+z4) z4) (Nx .normal (mkF 107 [(1,.pointer (some ⟨2,0,none⟩)),(3,.slice (some ⟨3,0,some 0⟩) z3 1),(4,.int .i64 (IntKind.wrap .i64 (i+(1:Int))))]) (mkS [some z7,some z5,some z0,some (.row .mine 1 0 z3 fun j k=>mrgT (Nat.blt j z4) (mrgT (Nat.blt (0+j) z8) (encL B (0+(0+j)) k) (selT 1 1 [.sc (.int .u8 (IntKind.wrap .u8 (Int.ofNat (ByteArray.size z1))))] (0+j-List.length B) k)) (.sc (.int .u8 (Int.ofNat (strB z1 (j-z4))))))])))))))))))) (Nx (.exit 0) (mkF 107 [(1,.pointer (some ⟨2,0,none⟩)),(3,.slice (some ⟨3,0,some 0⟩) z8 1),(4,.int .i64 i)]) (mkS [some z7,some z5,some z0,some (.row .mine 1 0 z8 (encL B))])))) (List.length B+1+ByteArray.size z1))) (.cells [.int .i64 (Ms.k m),.int .i64 (Ms.id m),.int .i64 (Ms.er m),.int .i64 (Ms.n m),.int .i64 (Ms.sq m),.bool (Ms.lo m),.int .i64 (Ms.ev m),.int .i64 (Vl.k (Ms.bd m)),.int .i64 (Vl.i (Ms.bd m)),.float .f64 (Vl.f (Ms.bd m)),.slice (some ⟨0,0,some 0⟩) z2 (Ms.cps m),.slice (some ⟨1,0,some 0⟩) (List.length (Ms.vs m)) (Ms.cvs m)] true 0) (.row .look 1 0 z2 (encL (Ms.ps m))) (St.s (List.getD (Ms.ps m) z9 Enc.dflt)) (Nat.ble 0 z9&&Nat.blt z9 z2) (Nat.blt (Int.toNat i) z2))) (List.length (Ms.ps m)) (List.length B+1) B.length (0+Int.toNat i) (.row .look 3 0 (List.length (Ms.vs m)) (encL (Ms.vs m))):=by kernel_rfl
theorem ahm_(m:Ms)(B:List U8)(i:Int)(β:Bs)(Nx:Kt):c0_ Tryz.prog toldM4 100 20 β (fun _=>0) (cnOf 2 slPm) (fun _ _=>False) 34 2 2 (lvPm 2) (FP2 B.length i) (SPm m B) Nx=
 (fun(z3 z8 z9:Nat) (z5:AObj)=>((fun(z1 z7:AObj) (z4:Vl)=>((fun(z0:List Td)=>((fun(z2:List U8)=>((fun(z6:Nat)=>(br (decide (i<Int.ofNat z3)) (need (decide ((0:Int)≤i)) (need (Nat.blt (Int.toNat i) z3) (need (Nat.ble 0 z9&&Nat.blt z9 z3) (need (okS1 Vl pvP [Ta.agg z0]) (need (true&&Nat.ble (0+List.length z2) z2.length) (need (Nat.ble z6 1000000) (need (true&&Nat.ble (0+List.length B) z8) (Nx .normal (mkF 107 [(1,.pointer (some ⟨2,0,none⟩)),(3,.slice (some ⟨3,0,some 0⟩) z6 1),(5,.int .i64 (IntKind.wrap .i64 (i+(1:Int))))]) (mkS [some z5,some z7,some z1,some (.row .mine 1 0 z6 fun j k=>mrgT (Nat.blt j z8) (encL B (0+j) k) (encL z2 (0+(j-List.length B)) k))]))))))))) (Nx (.exit 2) (mkF 107 [(1,.pointer (some ⟨2,0,none⟩)),(3,.slice (some ⟨3,0,some 0⟩) z8 1),(5,.int .i64 i)]) (mkS [some z5,some z7,some z1,some (.row .mine 1 0 z8 (encL B))])))) (List.length B+List.length z2))) (pvL (Enc.dec (nthT z0))))) [.sc (.int .i64 (Vl.k z4)),.sc (.int .i64 (Vl.i z4)),.sc (.float .f64 (Vl.f z4))])) (.cells [.int .i64 (Ms.k m),.int .i64 (Ms.id m),.int .i64 (Ms.er m),.int .i64 (Ms.n m),.int .i64 (Ms.sq m),.bool (Ms.lo m),.int .i64 (Ms.ev m),.int .i64 (Vl.k (Ms.bd m)),.int .i64 (Vl.i (Ms.bd m)),.float .f64 (Vl.f (Ms.bd m)),.slice (some ⟨0,0,some 0⟩) (List.length (Ms.ps m)) (Ms.cps m),.slice (some ⟨1,0,some 0⟩) z3 (Ms.cvs m)] true 0) (.row .look 3 0 z3 (encL (Ms.vs m))) (List.getD (Ms.vs m) z9 Enc.dflt))) (List.length (Ms.vs m)) B.length (0+Int.toNat i) (.row .look 1 0 (List.length (Ms.ps m)) (encL (Ms.ps m))):=by kernel_rfl
theorem apo_(m:Ms)(β:Bs)(K:AE→List (Option AObj)→Prop):lawE Tryz.prog toldM4 100 20 β (fun _=>0) (cnOf 2 slPm) (exPm m) 34 [amV m 0 1] (mkS (viM m)) (outK K)=
 (fun(z26:List Td) (z27:Code) (z29 z39 z45 z47 z48:Value) (z35 z36 z44 z46:Nat) (z38:Option Addr) (z49:AE) (z50 z51 z52 z53:Int) (z54:Addr) (z56:Bool)=>((fun(z1 z12 z13:AObj) (z6 z7 z8 z9 z11 z17 z18 z19 z20 z21 z22 z43:List Td) (z31:AFr) (z32:Bool) (z34:Int)=>((fun(z2:List U8) (z4:Int) (z10:List Td) (z37:List (Option AObj)) (z57:Bool)=>((fun(z0:Prop) (z25:List Td) (z30 z33:Nat) (z40:Bool) (z41:Int)=>((fun(z3:Int) (z16:List Td) (z28:AFr) (z55:Bool)=>((fun(z24:List Td) (z42:Int)=>((fun(z5:Int) (z15:List Td)=>((fun(z14 z23:List Td)=>(need (true&&Nat.ble (0+List.length (Ms.ps m)) z35) (need (true&&Nat.ble (0+List.length (Ms.vs m)) z36) (need (okS1 Ms (fun x=>true) [Ta.agg z7]) (br (!mayM (Enc.dec (nthT z7))) (K z49 [some z12,some z13,some z1,none]) (br (Ms.lo m) (br z56 (LoopJ Tryz.prog β (exPm m) 0 z27 z31 (mkS [some z12,some z13,some z1,some (.row .mine 1 0 19 fun j k=>mrgT (Nat.blt j 18) (mrgT (Nat.blt (0+j) 17) (mrgT (Nat.blt (0+(0+j)) 9) (mrgT (Nat.blt (0+(0+(0+j))) 7) (mrgT (Nat.blt (0+(0+(0+(0+j)))) 5) (mrgT (Nat.blt (0+(0+(0+(0+(0+j))))) 3) (mrgT (Nat.blt (0+(0+(0+(0+(0+(0+j)))))) 1) (selT 1 1 z26 (0+(0+(0+(0+(0+(0+(0+j))))))) k) (putT 0 0 z8 (putT 1 0 z17 fun x=>nthT z6) (0+(0+(0+(0+(0+(0+(0+j)))))-1)) k)) (putT 0 0 z11 (putT 1 0 z20 fun x=>nthT z6) (0+(0+(0+(0+(0+(0+j))))-3)) k)) (putT 0 0 z9 (putT 1 0 z18 fun x=>nthT z6) (0+(0+(0+(0+(0+j)))-5)) k)) (selT 1 2 z43 (0+(0+(0+j))-7) k)) (putT 0 0 z14 (putT 1 0 z23 (putT 2 0 z15 (putT 3 0 z24 (putT 4 0 z16 (putT 5 0 z25 (putT 6 0 z10 (putT 7 0 z19 fun x=>nthT z6))))))) (0+(0+(0+j)-9)) k)) (selT 1 1 z6 (0+j-17) k)) (selT 1 1 z22 (j-18) k))])∧need z32 z0) (need z57 (need z40 (need (Nat.ble z30 1000000) (need (Nat.ble z33 1000000) (need z55 (LoopJ Tryz.prog β (exPm m) 0 z27 z28 (mkS [some z12,some z13,some z1,some (.row .mine 1 0 z33 fun j k=>mrgT (Nat.blt j z30) (mrgT (Nat.blt (0+j) 17) (mrgT (Nat.blt (0+(0+j)) 9) (mrgT (Nat.blt (0+(0+(0+j))) 7) (mrgT (Nat.blt (0+(0+(0+(0+j)))) 5) (mrgT (Nat.blt (0+(0+(0+(0+(0+j))))) 3) (mrgT (Nat.blt (0+(0+(0+(0+(0+(0+j)))))) 1) (selT 1 1 z26 (0+(0+(0+(0+(0+(0+(0+j))))))) k) (putT 0 0 z8 (putT 1 0 z17 fun x=>nthT z6) (0+(0+(0+(0+(0+(0+(0+j)))))-1)) k)) (putT 0 0 z11 (putT 1 0 z20 fun x=>nthT z6) (0+(0+(0+(0+(0+(0+j))))-3)) k)) (putT 0 0 z9 (putT 1 0 z18 fun x=>nthT z6) (0+(0+(0+(0+(0+j)))-5)) k)) (selT 1 2 z43 (0+(0+(0+j))-7) k)) (putT 0 0 z14 (putT 1 0 z23 (putT 2 0 z15 (putT 3 0 z24 (putT 4 0 z16 (putT 5 0 z25 (putT 6 0 z10 (putT 7 0 z19 fun x=>nthT z6))))))) (0+(0+(0+j)-9)) k)) (encL z2 (0+(0+j-17)) k)) (selT 1 1 z22 (j-z30) k))])∧need z32 z0))))))) (br z56 (LoopJ Tryz.prog β (exPm m) 0 z27 z31 (mkS [some z12,some z13,some z1,some (.row .mine 1 0 19 fun j k=>mrgT (Nat.blt j 18) (mrgT (Nat.blt (0+j) 17) (mrgT (Nat.blt (0+(0+j)) 9) (mrgT (Nat.blt (0+(0+(0+j))) 7) (mrgT (Nat.blt (0+(0+(0+(0+j)))) 5) (mrgT (Nat.blt (0+(0+(0+(0+(0+j))))) 3) (mrgT (Nat.blt (0+(0+(0+(0+(0+(0+j)))))) 1) (selT 1 1 z26 (0+(0+(0+(0+(0+(0+(0+j))))))) k) (putT 0 0 z8 (putT 1 0 z17 fun x=>nthT z6) (0+(0+(0+(0+(0+(0+(0+j)))))-1)) k)) (putT 0 0 z11 (putT 1 0 z20 fun x=>nthT z6) (0+(0+(0+(0+(0+(0+j))))-3)) k)) (putT 0 0 z9 (putT 1 0 z18 fun x=>nthT z6) (0+(0+(0+(0+(0+j)))-5)) k)) (selT 1 2 [.sc z29,.sc z39] (0+(0+(0+j))-7) k)) (putT 0 0 z14 (putT 1 0 z23 (putT 2 0 z15 (putT 3 0 z24 (putT 4 0 z16 (putT 5 0 z25 (putT 6 0 z10 (putT 7 0 z19 fun x=>nthT z6))))))) (0+(0+(0+j)-9)) k)) (selT 1 1 z6 (0+j-17) k)) (selT 1 1 z22 (j-18) k))])∧need z32 z0) (need z57 (need z40 (need
 (Nat.ble z30 1000000) (need (Nat.ble z33 1000000) (need z55 (LoopJ Tryz.prog β (exPm m) 0 z27 z28 (mkS [some z12,some z13,some z1,some (.row .mine 1 0 z33 fun j k=>mrgT (Nat.blt j z30) (mrgT (Nat.blt (0+j) 17) (mrgT (Nat.blt (0+(0+j)) 9) (mrgT (Nat.blt (0+(0+(0+j))) 7) (mrgT (Nat.blt (0+(0+(0+(0+j)))) 5) (mrgT (Nat.blt (0+(0+(0+(0+(0+j))))) 3) (mrgT (Nat.blt (0+(0+(0+(0+(0+(0+j)))))) 1) (selT 1 1 z26 (0+(0+(0+(0+(0+(0+(0+j))))))) k) (putT 0 0 z8 (putT 1 0 z17 fun x=>nthT z6) (0+(0+(0+(0+(0+(0+(0+j)))))-1)) k)) (putT 0 0 z11 (putT 1 0 z20 fun x=>nthT z6) (0+(0+(0+(0+(0+(0+j))))-3)) k)) (putT 0 0 z9 (putT 1 0 z18 fun x=>nthT z6) (0+(0+(0+(0+(0+j)))-5)) k)) (selT 1 2 [.sc z29,.sc z39] (0+(0+(0+j))-7) k)) (putT 0 0 z14 (putT 1 0 z23 (putT 2 0 z15 (putT 3 0 z24 (putT 4 0 z16 (putT 5 0 z25 (putT 6 0 z10 (putT 7 0 z19 fun x=>nthT z6))))))) (0+(0+(0+j)-9)) k)) (encL z2 (0+(0+j-17)) k)) (selT 1 1 z22 (j-z30) k))])∧need z32 z0))))))))))))) [.sc (.int .u8 (IntKind.wrap .u8 (Int.tmod (IntKind.wrap .u64 (Int.tdiv z5 (256:Int))) (256:Int))))] [.sc (.int .u8 (IntKind.wrap .u8 (Int.tmod z5 (256:Int))))])) (IntKind.wrap .u64 (Int.tdiv z42 (256:Int))) [.sc (.int .u8 (IntKind.wrap .u8 (Int.tmod z42 (256:Int))))])) [.sc (.int .u8 (IntKind.wrap .u8 (Int.tmod z3 (256:Int))))] (IntKind.wrap .u64 (Int.tdiv z3 (256:Int))))) (IntKind.wrap .u64 (Int.tdiv z41 (256:Int))) [.sc (.int .u8 (IntKind.wrap .u8 (Int.tmod z41 (256:Int))))] (mkF 107 [(1,.pointer (some z54)),(3,.slice z38 z33 1),(4,.int .i64 (0:Int))]) (true&&Nat.ble (0+z30) z30))) (need (true&&Nat.ble (0+List.length (pmP m)) (List.length (pmP m))) (LoopJ Tryz.prog β (exPm m) 2 (a5_ Tryz.prog 34 2) (mkF 107 [(1,.pointer (some z54)),(3,.slice z38 z44 1),(5,.int .i64 (0:Int))]) (mkS [some z12,some z13,some z1,some (.row .mine 1 0 z44 fun j k=>mrgT (Nat.blt j (List.length (pmP m))) (encL (pmP m) (0+j) k) (selT 1 1 [.sc (.int .u8 (IntKind.wrap .u8 (Int.ofNat z36)))] (j-List.length (pmP m)) k))])∧br (decide (Int.ofNat z46>(200:Int))) (K z49 z37) (K (.returned (.slice z38 z46 1)) z37))) [.sc (.int .u8 (IntKind.wrap .u8 (Int.tmod z4 (256:Int))))] (17+List.length z2) (17+List.length z2+1) (true&&Nat.ble (0+List.length z2) z2.length) (IntKind.wrap .u64 (Int.tdiv z4 (256:Int))))) (pvL (Enc.dec (nthT z21))) (IntKind.wrap .u64 (Int.tdiv z34 (256:Int))) [.sc (.int .u8 (IntKind.wrap .u8 (Int.tmod z34 (256:Int))))] [some z12,some z13,some z1,some (.row .mine 1 0 z46 (encL (pmV m)))] (okS1 Vl pvP [Ta.agg z21]))) (.cells [.int .i64 (Ms.k m),.int .i64 (Ms.id m),.int .i64 (Ms.er m),.int .i64 (Ms.n m),.int .i64 (Ms.sq m),.bool (Ms.lo m),.int .i64 (Ms.ev m),.int .i64 (Vl.k (Ms.bd m)),.int .i64 (Vl.i (Ms.bd m)),.float .f64 (Vl.f (Ms.bd m)),.slice (some ⟨0,0,some 0⟩) z35 (Ms.cps m),.slice (some ⟨1,0,some 0⟩) z36 (Ms.cvs m)] true 0) (.row .look 1 0 z35 (encL (Ms.ps m))) (.row .look 3 0 z36 (encL (Ms.vs m))) [.sc z39] [.sc (.int .i64 (Ms.k m)),.sc (.int .i64 (Ms.id m)),.sc (.int .i64 (Ms.er m)),.sc (.int .i64 (Ms.n m)),.sc (.int .i64 (Ms.sq m)),.sc (.bool (Ms.lo m)),.sc (.int .i64 (Ms.ev m)),.sc z47,.sc z48,.sc z45,.fr 1 z35 (Ms.cps m) fun i=>encL (Ms.ps m) (0+i),.fr 3 z36 (Ms.cvs m) fun i=>encL (Ms.vs m) (0+i)] [.sc (.int .u8 (IntKind.wrap .u8 (Int.tmod (IntKind.wrap .u64 (Int.tdiv z50 (256:Int))) (256:Int))))] [.sc (.int .u8 (IntKind.wrap .u8 (Int.tmod (IntKind.wrap .u64 (Int.tdiv z51 (256:Int))) (256:Int))))] [.sc (.int .u8 (IntKind.wrap .u8 (Int.tmod (IntKind.wrap .u64 (Int.tdiv z53 (256:Int))) (256:Int))))] [.sc (.int .u8 (IntKind.wrap .u8 (Int.tmod z50 (256:Int))))] [.sc (.int .u8 (IntKind.wrap .u8 (Int.tmod z51 (256:Int))))] [.sc (.int .u8 (IntKind.wrap .u8 (Int.tmod z52 (256:Int))))] [.sc (.int .u8 (IntKind.wrap .u8
 (Int.tmod z53 (256:Int))))] [.sc z47,.sc z48,.sc z45] [.sc (.int .u8 (IntKind.wrap .u8 (Int.ofNat z35)))] [.sc z29,.sc (.int .u8 (1:Int))] (mkF 107 [(1,.pointer (some z54)),(3,.slice z38 19 1),(4,.int .i64 (0:Int))]) (Nat.ble z44 1000000) (IntKind.wrap .u64 (Int.tdiv z52 (256:Int))))) [.sc (.int .u8 (IntKind.wrap .u8 (Ms.k m)))] (a5_ Tryz.prog 34 0) (.int .u8 (IntKind.wrap .u8 (Ms.er m))) (.int .u8 (0:Int)) (.float .f64 (Vl.f (Ms.bd m))) (.int .i64 (Vl.k (Ms.bd m))) (.int .i64 (Vl.i (Ms.bd m))) (List.length (Ms.ps m)) (List.length (Ms.vs m)) (List.length (pmP m)+1) (List.length (pmV m)) (some ⟨3,0,some 0⟩) (.returned (.slice none 0 0)) (IntKind.wrap .u64 (Ms.id m)) (IntKind.wrap .u64 (Ms.sq m)) (IntKind.wrap .u64 (Ms.ev m)) (IntKind.wrap .u64 (Ms.n m)) ⟨2,0,none⟩ (Vl.k (Ms.bd m)==(0:Int)):=by kernel_rfl
theorem cFt{b x:Bool}(h:cond b false x=true):b=false∧x=true:=by cases b<;>simp_all
theorem cTf{b x:Bool}(h:cond b x false=true):b=true∧x=true:=by cases b<;>simp_all
theorem abR_{m:Ms}(h:mayM m=true):m.ps.length≤5∧m.vs.length≤5∧pOkB m=true∧vOkB m=true∧bdOk m.bd=true:=by
 unfold mayM at h
 obtain⟨_,h⟩:=cFt h
 obtain⟨_,h⟩:=cFt h
 obtain⟨_,h⟩:=cFt h
 obtain⟨_,h⟩:=cFt h
 obtain⟨_,h⟩:=cFt h
 obtain⟨_,h⟩:=cFt h
 obtain⟨_,h⟩:=cFt h
 obtain⟨_,h⟩:=cFt h
 obtain⟨_,h⟩:=cFt h
 obtain⟨a,h⟩:=cFt h
 obtain⟨b,h⟩:=cFt h
 obtain⟨c,h⟩:=cTf h
 obtain⟨d,h⟩:=cTf h
 obtain⟨e,h⟩:=cTf h
 have a: ¬(Int.ofNat m.ps.length>5):=of_decide_eq_false a
 have b: ¬(Int.ofNat m.vs.length>5):=of_decide_eq_false b
 rw[Int.ofNat_eq_natCast]at a b
 exact⟨by omega,by omega,c,d,e⟩
theorem afB_{k i:Int}{f:Nat}(h:mvB k i f=true):1≤k∧k≤5:=by
 unfold mvB at h
 cases hk:(k==5)with
 |true=>have:=eq_of_beq hk;omega
 |false=>
  rw[hk,cond_false]at h
  simp only[Bool.and_eq_true,decide_eq_true_eq]at h
  omega
theorem okPv{v:Vl}(h1:1≤v.k)(h2:v.k≤5):okS1 Vl pvP [.agg [.sc (.int .i64 v.k),.sc (.int .i64 v.i),.sc (.float .f64 v.f)]]=true:=by
 show(Nat.beq 3 3&&true&&(decide (1≤v.k)&&decide (v.k≤5)))=true
 simpa using⟨h1,h2⟩
theorem s3_(v:Vl):(pvL v).length≤9∧1≤(pvL v).length:=by
 unfold pvL
 cases(v.k==5)<;>cases(v.k==1)<;>cases(v.k==2)<;>cases(v.k==3)<;>simp[hi1,hi2,hi4,hi8]
theorem agJ_(v:Vl):(bdL v).length≤9∧1≤(bdL v).length:=by
 unfold bdL
 cases(v.k==0)with
 |true=>simp
 |false=>exact s3_ v
theorem afY_(m:Ms):(hdM m).length=18+(bdL m.bd).length:=by
 unfold hdM
 simp[hi2,hi8];omega
theorem M7_(s:ByteArray):(strL s).length=s.size:=by simp[strL]
theorem O1_(s:St):(ptL s).length=s.s.size+1:=by simp[ptL,M7_]
theorem RowU.strS(s:ByteArray):RowU (fun i _=> .sc (.int .u8 (Int.ofNat (strB s i)))) s.size (strL s):=⟨(M7_ s).symm,fun i hi=>by simp[encL,strL,List.getD,hi];rfl,fun i=>⟨_,rfl⟩⟩
def PB(m:Ms)(k:Nat):List U8:=hdM m++(m.ps.take k).flatMap ptL
def VB(m:Ms)(k:Nat):List U8:=(pmP m++[⟨IntKind.wrap .u8 (Int.ofNat m.vs.length)⟩])++(m.vs.take k).flatMap pvL
theorem M6_{α:Type}{l:List α}{k:Nat}(d:α)(h:k<l.length):l.take (k+1)=l.take k++[l.getD k d]:=by
 rw[List.take_succ_eq_append_getElem h]
 simp[List.getD,h]
theorem H9_{m:Ms}{k:Nat}(h:k<m.ps.length):PB m (k+1)=PB m k++ptL (m.ps.getD k Enc.dflt):=by
 unfold PB
 rw[M6_ Enc.dflt h,List.flatMap_append,List.append_assoc]
 simp
theorem R0_{m:Ms}{k:Nat}(h:k<m.vs.length):VB m (k+1)=VB m k++pvL (m.vs.getD k Enc.dflt):=by
 unfold VB
 rw[M6_ Enc.dflt h,List.flatMap_append,←List.append_assoc]
 simp
theorem afm_{m:Ms}(h:pOkB m=true){k:Nat}(hk:k<m.ps.length):(m.ps.getD k Enc.dflt).s.size≤20:=by
 unfold pOkB at h
 rw[List.all_eq_true]at h
 have e:m.ps.getD k Enc.dflt=m.ps[k]:=by simp[List.getD,hk]
 have:=h _ (List.getElem_mem hk)
 rw[e]
 simp only[Bool.and_eq_true,Bool.not_eq_true',decide_eq_false_iff_not]at this
 have h2:=this.2
 rw[Int.ofNat_eq_natCast]at h2
 omega
theorem anN_{m:Ms}(h:vOkB m=true){k:Nat}(hk:k<m.vs.length):1≤(m.vs.getD k Enc.dflt).k∧(m.vs.getD k Enc.dflt).k≤5:=by
 unfold vOkB at h
 rw[List.all_eq_true]at h
 have e:m.vs.getD k Enc.dflt=m.vs[k]:=by simp[List.getD,hk]
 rw[e]
 exact afB_ (h _ (List.getElem_mem hk))
theorem M1_{m:Ms}(hp:pOkB m=true): ∀k,k≤m.ps.length→(PB m k).length≤27+21*k
 |0,_=>by
  have:=afY_ m
  have:=agJ_ m.bd
  simp[PB];omega
 |k+1,h=>by
  have h1:=M1_ hp k (by omega)
  have h2:=afm_ hp (k:=k) (by omega)
  rw[H9_ (by omega),List.length_append,O1_];omega
theorem U5_(m:Ms):pmP m=PB m m.ps.length:=by unfold pmP PB;rw[List.take_length]
theorem ajP_(m:Ms):pmV m=VB m m.vs.length:=by unfold pmV VB;rw[List.take_length]
theorem ahd_{m:Ms}(hp:pOkB m=true)(h5:m.ps.length≤5): ∀k,k≤m.vs.length→(VB m k).length≤150+9*k
 |0,_=>by
  have:=M1_ hp m.ps.length (Nat.le_refl _)
  rw[←U5_]at this
  simp[VB];omega
 |k+1,h=>by
  have h1:=ahd_ hp h5 k (by omega)
  have h2:=(s3_ (m.vs.getD k Enc.dflt)).1
  rw[R0_ (by omega),List.length_append];omega
theorem B5_{m:Ms}{β:Bs}(hβ:β.X.length=2)(hp:pOkB m=true)(h5:m.ps.length≤5):LoopJ Tryz.prog β (exPm m) 0 (a5_ Tryz.prog 34 0) (FP0 (PB m 0).length (0:Nat)) (SPm m (PB m 0)):=by
 refine b2_ (fun k:Nat=>k≤m.ps.length) (fun k:Nat=>FP0 (PB m k).length (k:Nat)) (fun k=>SPm m (PB m k)) (fun k=>m.ps.length-k) (fun k hk K hK=> ?_) 0 (Nat.zero_le _)
 have hK:exP0 m 0 K:=hK
 have hK:K (.exit 0) (FP0 (pmP m).length (Int.ofNat m.ps.length)) (SPm m (pmP m)):=hK
 show J _ β _ _ _ (Nn β (fun k:Nat=>k≤m.ps.length) (fun k=>m.ps.length-k) (fun k:Nat=>FP0 (PB m k).length (k:Nat)) (fun k=>SPm m (PB m k)) k K)
 refine rJ_ (E:=2) (lvs:=slPm) (un:=fun _=>0) (fuel:=100) (n:=20) (ex:=fun _ _=>False) follows toldM4_ok hβ (lv:=lvPm 0) ?_
 refine(akC_ m (PB m k) (k:Nat) β _).mpr ?_
 try dsimp only
 have hlen:=M1_ hp k hk
 refine a0_ (fun hlt=> ?_) (fun hlt=> ?_)
 ·have hlt:k<m.ps.length:=by simpa using hlt
  have e0:Int.toNat (k:Int)=k:=Int.toNat_natCast k
  have hw:IntKind.wrap .i64 ((k:Int)+1)=((k+1:Nat):Int):=w64 (by omega) (by omega)
  rw[e0,hw]
  simp only[Nat.zero_add]
  have hsz:=afm_ hp hlt
  have c1:decide ((0:Int)≤(k:Int))=true:=by simp
  have c2:Nat.blt k m.ps.length=true:=by simpa using hlt
  have c3:(Nat.ble 0 k&&Nat.blt k m.ps.length)=true:=by rw[c2];simp
  have c4:Nat.ble ((PB m k).length+1) 1000000=true:=Nat.ble_eq_true_of_le (by omega)
  have c5:(true&&Nat.ble (PB m k).length (PB m k).length)=true:=by simp
  have c6:Nat.ble ((PB m k).length+1+(m.ps.getD k Enc.dflt).s.size) 1000000=true:=Nat.ble_eq_true_of_le (by omega)
  have c7:(true&&Nat.ble ((PB m k).length+1) ((PB m k).length+1))=true:=by simp
  refine nd_ c1 (nd_ c2 (nd_ c3 (nd_ c4 (nd_ c5 (nd_ c1 (nd_ c2 (nd_ c3 (nd_ c6 (nd_ c7 ?_)))))))))
  have hl:(PB m (k+1)).length=(PB m k).length+1+(m.ps.getD k Enc.dflt).s.size:=by rw[H9_ hlt,List.length_append,O1_];omega
  have hR:=(((RowU.enc (PB m k)).app (RowU.sel1 (IntKind.wrap .u8 (Int.ofNat (m.ps.getD k Enc.dflt).s.size)))).app (RowU.strS (m.ps.getD k Enc.dflt).s)).to (M:=PB m (k+1)) rfl (by rw[H9_ hlt,List.append_assoc];rfl)
  rw[←hl]
  rw[←hl]at hR
  refine Nn.next (I:=fun k:Nat=>k≤m.ps.length) (m:=fun k=>m.ps.length-k) (F:=fun k:Nat=>FP0 (PB m k).length (k:Nat)) (S:=fun k=>SPm m (PB m k)) (p:=k) (k+1) hlt (by show m.ps.length-(k+1)<m.ps.length-k;omega) (Seen.objs rfl fun q o2 h=> ?_)
  match q,h with
  |0,h=>cases h;exact⟨_,rfl,rfl,fun _ _ _ h=>h⟩
  |1,h=>cases h;exact⟨_,rfl,rfl,fun _ _ _ h=>h⟩
  |2,h=>cases h;exact⟨_,rfl,rfl,fun _ _ _ h=>h⟩
  |3,h=>cases h;exact⟨_,rfl,rfl,fun _ _ _ h=>hR.obj _ _ _ h⟩
  |_+4,h=>cases h
 ·have hge: ¬k<m.ps.length:=by simpa using hlt
  have hkn:k=m.ps.length:=by omega
  subst hkn
  rw[U5_]at hK
  exact Nn.exit (Seen.refl _ _ _) hK
theorem B4_{m:Ms}{β:Bs}(hβ:β.X.length=2)(hp:pOkB m=true)(h5:m.ps.length≤5)(hv:vOkB m=true)(h6:m.vs.length≤5):LoopJ Tryz.prog β (exPm m) 2 (a5_ Tryz.prog 34 2) (FP2 (VB m 0).length (0:Nat)) (SPm m (VB m 0)):=by
 refine b2_ (fun k:Nat=>k≤m.vs.length) (fun k:Nat=>FP2 (VB m k).length (k:Nat)) (fun k=>SPm m (VB m k)) (fun k=>m.vs.length-k) (fun k hk K hK=> ?_) 0 (Nat.zero_le _)
 have hK:exP2 m 2 K:=hK
 have hK:K (.exit 2) (FP2 (pmV m).length (Int.ofNat m.vs.length)) (SPm m (pmV m)):=hK
 show J _ β _ _ _ (Nn β (fun k:Nat=>k≤m.vs.length) (fun k=>m.vs.length-k) (fun k:Nat=>FP2 (VB m k).length (k:Nat)) (fun k=>SPm m (VB m k)) k K)
 refine rJ_ (E:=2) (lvs:=slPm) (un:=fun _=>0) (fuel:=100) (n:=20) (ex:=fun _ _=>False) follows toldM4_ok hβ (lv:=lvPm 2) ?_
 refine(ahm_ m (VB m k) (k:Nat) β _).mpr ?_
 try dsimp only
 have hlen:=ahd_ hp h5 k hk
 refine a0_ (fun hlt=> ?_) (fun hlt=> ?_)
 ·have hlt:k<m.vs.length:=by simpa using hlt
  have e0:Int.toNat (k:Int)=k:=Int.toNat_natCast k
  have hw:IntKind.wrap .i64 ((k:Int)+1)=((k+1:Nat):Int):=w64 (by omega) (by omega)
  rw[e0,hw]
  simp only[Nat.zero_add]
  obtain⟨p1,p2⟩:=anN_ hv hlt
  have hl:=R0_ hlt
  have hpl:=(s3_ (m.vs.getD k Enc.dflt)).1
  have hN: ∀L:List U8,L=pvL (m.vs.getD k Enc.dflt)→Nn β (fun k:Nat=>k≤m.vs.length) (fun k=>m.vs.length-k) (fun k:Nat=>FP2 (VB m k).length (k:Nat)) (fun k=>SPm m (VB m k)) k K .normal (FP2 ((VB m k).length+L.length) ((k+1:Nat):Int))
    (mkS [some (rowO .look m.ps),some (rowO .look m.vs),some (amC m 0 1),some (.row .mine 1 0 ((VB m k).length+L.length) fun j k_1=>mrgT (Nat.blt j (VB m k).length) (encL (VB m k) j k_1) (encL L (j-(VB m k).length) k_1))]):=by
   intro L hL
   subst hL
   have hR:=((RowU.enc (VB m k)).app (RowU.enc (pvL (m.vs.getD k Enc.dflt)))).to (M:=VB m (k+1)) rfl hl.symm
   have hl2:(VB m (k+1)).length=(VB m k).length+(pvL (m.vs.getD k Enc.dflt)).length:=by rw[hl,List.length_append]
   rw[←hl2]
   rw[←hl2]at hR
   refine Nn.next (I:=fun k:Nat=>k≤m.vs.length) (m:=fun k=>m.vs.length-k) (F:=fun k:Nat=>FP2 (VB m k).length (k:Nat)) (S:=fun k=>SPm m (VB m k)) (p:=k) (k+1) hlt (by show m.vs.length-(k+1)<m.vs.length-k;omega) (Seen.objs rfl fun q o2 h=> ?_)
   match q,h with
   |0,h=>cases h;exact⟨_,rfl,rfl,fun _ _ _ h=>h⟩
   |1,h=>cases h;exact⟨_,rfl,rfl,fun _ _ _ h=>h⟩
   |2,h=>cases h;exact⟨_,rfl,rfl,fun _ _ _ h=>h⟩
   |3,h=>cases h;exact⟨_,rfl,rfl,fun _ _ _ h=>hR.obj _ _ _ h⟩
   |_+4,h=>cases h
  have c1:decide ((0:Int)≤(k:Int))=true:=by simp
  have c2:Nat.blt k m.vs.length=true:=by simpa using hlt
  have c3:(Nat.ble 0 k&&Nat.blt k m.vs.length)=true:=by rw[c2];simp
  exact nd_ c1 (nd_ c2 (nd_ c3 (nd_ (okPv p1 p2) (nd_ (by simp) (nd_ (Nat.ble_eq_true_of_le (by show(VB m k).length+(pvL (m.vs.getD k Enc.dflt)).length≤1000000;omega)) (nd_ (by simp) (hN _ rfl)))))))
 ·have hge: ¬k<m.vs.length:=by simpa using hlt
  have hkn:k=m.vs.length:=by omega
  subst hkn
  rw[ajP_]at hK
  exact Nn.exit (Seen.refl _ _ _) hK
def pmL(m:Ms):List U8:=cond (mayM m) (cond (decide (Int.ofNat (pmV m).length>200)) [] (pmV m)) []
theorem o7_{m:List (Option AObj)}{L:List U8}(h:L=[]): ∃m2,a6_ m m2∧ansE (.ret (.cell (ownL L 1))) (.returned (.slice none 0 0)) (mkS m2):=by
 subst h
 exact⟨m,a6_.refl _,[],.inl ⟨rfl,rfl,rfl,rfl⟩,List.nodup_nil⟩
theorem o4_{L:List U8}{m:List (Option AObj)}{k n:Nat}{e:Nat→Nat→Td}(hR:RowU e n L)(hk:m[k]? =some (some (.row .mine 1 0 n e))):
  ∃m2,a6_ m m2∧ansE (.ret (.cell (ownL L 1))) (.returned (.slice (some ⟨k,0,some 0⟩) n 1)) (mkS m2):=by
 have hkl:=(List.getElem?_eq_some_iff.1 hk).1
 exact⟨_,hR.leaf hk,[k],U7_ hkl hR.len (fun h=>rfl),by simp⟩
theorem RowU.selB(v0 v1:Int):RowU (fun i k=>selT 1 2 [.sc (.int .u8 v0),.sc (.int .u8 v1)] i k) 2 [⟨v0⟩,⟨v1⟩]:=RowU.sel2 v0 v1
theorem O2_{m:Ms}{β:Bs}{n:Nat}{e:Nat→Nat→Td}(hR:RowU e n (PB m 0)):Seen β (FP0 n (0:Nat)) (mkS [some (rowO .look m.ps),some (rowO .look m.vs),some (amC m 0 1),some (.row .mine 1 0 n e)]) (FP0 (PB m 0).length (0:Nat)) (SPm m (PB m 0)):=by
 have hn:=hR.len
 subst hn
 refine Seen.objs rfl fun q o2 h=> ?_
 match q,h with
 |0,h=>cases h;exact⟨_,rfl,rfl,fun _ _ _ h=>h⟩
 |1,h=>cases h;exact⟨_,rfl,rfl,fun _ _ _ h=>h⟩
 |2,h=>cases h;exact⟨_,rfl,rfl,fun _ _ _ h=>h⟩
 |3,h=>cases h;exact⟨_,rfl,rfl,fun _ _ _ h=>hR.obj _ _ _ h⟩
 |_+4,h=>cases h
theorem B3_{m:Ms}{β:Bs}{n:Nat}{e:Nat→Nat→Td}(hR:RowU e n (VB m 0)):Seen β (FP2 n (0:Nat)) (mkS [some (rowO .look m.ps),some (rowO .look m.vs),some (amC m 0 1),some (.row .mine 1 0 n e)]) (FP2 (VB m 0).length (0:Nat)) (SPm m (VB m 0)):=by
 have hn:=hR.len
 subst hn
 refine Seen.objs rfl fun q o2 h=> ?_
 match q,h with
 |0,h=>cases h;exact⟨_,rfl,rfl,fun _ _ _ h=>h⟩
 |1,h=>cases h;exact⟨_,rfl,rfl,fun _ _ _ h=>h⟩
 |2,h=>cases h;exact⟨_,rfl,rfl,fun _ _ _ h=>h⟩
 |3,h=>cases h;exact⟨_,rfl,rfl,fun _ _ _ h=>hR.obj _ _ _ h⟩
 |_+4,h=>cases h
theorem alv_:c5_ Tryz.prog 34 (okS1 Ms fun _=>true) (Q7_ Ms fun m=> .ret (.cell (ownL (pmL m) 1))):=by
 refine abo_ follows fun m hm _=>⟨toldM4,100,20,fun _=>0,slPm,exPm m,toldM4_ok,fun β hβ=> ?_⟩
 obtain⟨a1,a2,a3,a4⟩:=oMa hm
 show lawE Tryz.prog toldM4 100 20 β (fun _=>0) (cnOf 2 slPm) (exPm m) 34 [amV m 0 1] (mkS (viM m)) (outK fun r q=> ∃m2,a6_ q m2∧ansE (.ret (.cell (ownL (pmL m) 1))) r (mkS m2))
 refine(apo_ m β _).mpr ?_
 try dsimp only
 have hd:(Enc.dec (nthT [.sc (.int .i64 m.bd.k),.sc (.int .i64 m.bd.i),.sc (.float .f64 m.bd.f)]):Vl)=m.bd:=rfl
 have tm:=oPV (k:=m.k) (id:=m.id) (er:=m.er) (n:=m.n) (sq:=m.sq) (lo:=m.lo) (ev:=m.ev) (bk:=m.bd.k) (bi:=m.bd.i) (bf:=m.bd.f) (ps:=m.ps) (cps:=m.cps) (vs:=m.vs) (cvs:=m.cvs) a1 a2 a3 a4
 refine nd_ (by simp) (nd_ (by simp) (nd_ ?_ ?_))
 ·show(Nat.beq 12 12&&Enc.ok Ms (nthT _)&&true)=true
  rw[tm];rfl
 rw[dPV]
 refine a0_ (fun hq=>o7_ ?_) (fun hq=> ?_)
 ·have hq:mayM m=false:=by rw[Bool.not_eq_true']at hq;exact hq
  unfold pmL;rw[hq];rfl
 have hmay:mayM m=true:=by rw[Bool.not_eq_false']at hq;exact hq
 clear hq
 obtain⟨h5,h6,hp,hv,hbd⟩:=abR_ hmay
 have hlP:=M1_ hp m.ps.length (Nat.le_refl _)
 rw[←U5_]at hlP
 have d1:Nat.ble ((pmP m).length+1) 1000000=true:=Nat.ble_eq_true_of_le (by omega)
 have d2:(true&&Nat.ble (0+(pmP m).length) (pmP m).length)=true:=by simp
 have hpl:=(s3_ m.bd).1
 have hVR:RowU (fun j k=>mrgT (Nat.blt j (pmP m).length) (encL (pmP m) (0+j) k) (selT 1 1 [.sc (.int .u8 (IntKind.wrap .u8 (Int.ofNat m.vs.length)))] (j-(pmP m).length) k)) ((pmP m).length+1) (VB m 0):=by
  simp only[Nat.zero_add]
  exact((RowU.enc (pmP m)).app (RowU.sel1 (IntKind.wrap .u8 (Int.ofNat m.vs.length)))).to rfl (by simp[VB])
 have hbad:decide (Int.ofNat (pmV m).length>200)=true→pmL m=[]:=fun h=>by unfold pmL;rw[hmay,h];rfl
 have hgood:decide (Int.ofNat (pmV m).length>200)=false→pmL m=pmV m:=fun h=>by unfold pmL;rw[hmay,h];rfl
 refine a0_ (fun hl=>a0_ (fun hb=>⟨?_,?_⟩) (fun hb=> ?_)) (fun hl=>a0_ (fun hb=>⟨?_,?_⟩) (fun hb=> ?_))
 ·have hH:=(((((((RowU.sel1 (IntKind.wrap .u8 m.k)).app (t9_ (IntKind.wrap .u64 m.id))).app (t9_ (IntKind.wrap .u64 m.n))).app (t9_ (IntKind.wrap .u64 m.sq))).app (RowU.selB (IntKind.wrap .u8 m.er) 1)).app (T7_ (IntKind.wrap .u64 m.ev))).app (RowU.sel1 0)).app (RowU.sel1 (IntKind.wrap .u8 (Int.ofNat m.ps.length)))
  have hH:=hH.to (m:=19) (M:=PB m 0) rfl (by simp[PB,hdM,bdL,hl,hb])
  simp only[Nat.zero_add]
  exact LoopJ.seen (O2_ hH) (B5_ hβ hp h5)
 ·exact nd_ d1 (nd_ d2 ⟨LoopJ.seen (B3_ hVR) (B4_ hβ hp h5 hv h6),a0_ (fun h=>o7_ (hbad h)) (fun h=>by rw[hgood h];exact o4_ (RowU.enc _) rfl)⟩)
 ·have hk:1≤m.bd.k∧m.bd.k≤5:=by
   unfold bdOk at hbd
   rw[hb,cond_false]at hbd
   exact afB_ hbd
  rw[hd]
  have hH:=(((((((RowU.sel1 (IntKind.wrap .u8 m.k)).app (t9_ (IntKind.wrap .u64 m.id))).app (t9_ (IntKind.wrap .u64 m.n))).app (t9_ (IntKind.wrap .u64 m.sq))).app (RowU.selB (IntKind.wrap .u8 m.er) 1)).app (T7_ (IntKind.wrap .u64 m.ev))).app (RowU.enc (pvL m.bd))).app (RowU.sel1 (IntKind.wrap .u8 (Int.ofNat m.ps.length)))
  have hH:=hH.to (m:=17+(pvL m.bd).length+1) (M:=PB m 0) rfl (by simp[PB,hdM,bdL,hl,hb])
  refine nd_ (okPv hk.1 hk.2) (nd_ (by simp) (nd_ (Nat.ble_eq_true_of_le (by omega)) (nd_ (Nat.ble_eq_true_of_le (by omega)) (nd_ (by simp) ⟨?_,?_⟩))))
  ·simp only[Nat.zero_add]
   exact LoopJ.seen (O2_ hH) (B5_ hβ hp h5)
  ·exact nd_ d1 (nd_ d2 ⟨LoopJ.seen (B3_ hVR) (B4_ hβ hp h5 hv h6),a0_ (fun h=>o7_ (hbad h)) (fun h=>by rw[hgood h];exact o4_ (RowU.enc _) rfl)⟩)
 ·have hH:=(((((((RowU.sel1 (IntKind.wrap .u8 m.k)).app (t9_ (IntKind.wrap .u64 m.id))).app (t9_ (IntKind.wrap .u64 m.n))).app (t9_ (IntKind.wrap .u64 m.sq))).app (RowU.selB (IntKind.wrap .u8 m.er) 0)).app (T7_ (IntKind.wrap .u64 m.ev))).app (RowU.sel1 0)).app (RowU.sel1 (IntKind.wrap .u8 (Int.ofNat m.ps.length)))
  have hH:=hH.to (m:=19) (M:=PB m 0) rfl (by simp[PB,hdM,bdL,hl,hb])
  simp only[Nat.zero_add]
  exact LoopJ.seen (O2_ hH) (B5_ hβ hp h5)
 ·exact nd_ d1 (nd_ d2 ⟨LoopJ.seen (B3_ hVR) (B4_ hβ hp h5 hv h6),a0_ (fun h=>o7_ (hbad h)) (fun h=>by rw[hgood h];exact o4_ (RowU.enc _) rfl)⟩)
 ·have hk:1≤m.bd.k∧m.bd.k≤5:=by
   unfold bdOk at hbd
   rw[hb,cond_false]at hbd
   exact afB_ hbd
  rw[hd]
  have hH:=(((((((RowU.sel1 (IntKind.wrap .u8 m.k)).app (t9_ (IntKind.wrap .u64 m.id))).app (t9_ (IntKind.wrap .u64 m.n))).app (t9_ (IntKind.wrap .u64 m.sq))).app (RowU.selB (IntKind.wrap .u8 m.er) 0)).app (T7_ (IntKind.wrap .u64 m.ev))).app (RowU.enc (pvL m.bd))).app (RowU.sel1 (IntKind.wrap .u8 (Int.ofNat m.ps.length)))
  have hH:=hH.to (m:=17+(pvL m.bd).length+1) (M:=PB m 0) rfl (by simp[PB,hdM,bdL,hl,hb])
  refine nd_ (okPv hk.1 hk.2) (nd_ (by simp) (nd_ (Nat.ble_eq_true_of_le (by omega)) (nd_ (Nat.ble_eq_true_of_le (by omega)) (nd_ (by simp) ⟨?_,?_⟩))))
  ·simp only[Nat.zero_add]
   exact LoopJ.seen (O2_ hH) (B5_ hβ hp h5)
  ·exact nd_ d1 (nd_ d2 ⟨LoopJ.seen (B3_ hVR) (B4_ hβ hp h5 hv h6),a0_ (fun h=>o7_ (hbad h)) (fun h=>by rw[hgood h];exact o4_ (RowU.enc _) rfl)⟩)
def toldM5:Told:=toldM4.tree 34 (okS1 Ms fun _=>true) (Q7_ Ms fun m=> .ret (.cell (ownL (pmL m) 1)))
theorem toldM5_ok:a8_ Tryz.prog toldM5:=Told.tree_ok toldM4_ok alv_
theorem apA_(m:Ms)(β:Bs)(K:AE→List (Option AObj)→Prop):lawE Tryz.prog toldM5 100 20 β (fun _=>0) (cnOf 2 fun _=>[]) (fun _ _=>False) 16 [amV m 0 1] (mkS (viM m)) (outK K)=
 (fun(z3 z4:Nat)=>((fun(z0:List Td)=>((fun(z2:List U8)=>((fun(z6:Nat)=>((fun(z1:Td)=>((fun(z5:Nat)=>(need (true&&Nat.ble (0+List.length (Ms.ps m)) z3) (need (true&&Nat.ble (0+List.length (Ms.vs m)) z4) (need (okS1 Ms (fun x=>true) [Ta.agg z0]) (need (true&&Nat.ble (0+List.length z2) z6) (need (ok1 U8 (fun l x=>List.all l (okA U8)) [Ta.cell z1]) (K (.returned (.slice (some ⟨6,0,some 0⟩) z5 1)) [some (.row .look 1 0 z3 (encL (Ms.ps m))),some (.row .look 3 0 z4 (encL (Ms.vs m))),some (.cells [.int .i64 (Ms.k m),.int .i64 (Ms.id m),.int .i64 (Ms.er m),.int .i64 (Ms.n m),.int .i64 (Ms.sq m),.bool (Ms.lo m),.int .i64 (Ms.ev m),.int .i64 (Vl.k (Ms.bd m)),.int .i64 (Vl.i (Ms.bd m)),.float .f64 (Vl.f (Ms.bd m)),.slice (some ⟨0,0,some 0⟩) z3 (Ms.cps m),.slice (some ⟨1,0,some 0⟩) z4 (Ms.cvs m)] true 0),none,some (.row .mine 1 0 z6 (encL z2)),none,some (.row .mine 1 0 z5 (encL (putL (a4_ U8 z1))))]))))))) (List.length (putL (a4_ U8 z1))))) (.fr 1 z6 1 fun i=>encL z2 (0+i)))) z2.length)) (pmL (Enc.dec (nthT z0))))) [.sc (.int .i64 (Ms.k m)),.sc (.int .i64 (Ms.id m)),.sc (.int .i64 (Ms.er m)),.sc (.int .i64 (Ms.n m)),.sc (.int .i64 (Ms.sq m)),.sc (.bool (Ms.lo m)),.sc (.int .i64 (Ms.ev m)),.sc (.int .i64 (Vl.k (Ms.bd m))),.sc (.int .i64 (Vl.i (Ms.bd m))),.sc (.float .f64 (Vl.f (Ms.bd m))),.fr 1 z3 (Ms.cps m) fun i=>encL (Ms.ps m) (0+i),.fr 3 z4 (Ms.cvs m) fun i=>encL (Ms.vs m) (0+i)])) (List.length (Ms.ps m)) (List.length (Ms.vs m)):=by kernel_rfl
theorem abN_(u:Int):okA U8 (bU u)=true:=V9_ _
theorem amr_(u:Int):(hi1 u).all (okA U8)=true:=by simp[hi1,abN_]
theorem afV_(u:Int):(hi2 u).all (okA U8)=true:=by simp[hi2,abN_]
theorem amp_(u:Int):(hi4 u).all (okA U8)=true:=by simp[hi4,abN_]
theorem afT_(u:Int):(hi8 u).all (okA U8)=true:=by simp[hi8,abN_]
theorem afd_(v:Vl):(pvL v).all (okA U8)=true:=by
 unfold pvL
 rw[List.all_cons,V9_,Bool.true_and]
 cases(v.k==5)<;>cases(v.k==1)<;>cases(v.k==2)<;>cases(v.k==3)<;>simp only[cond_true,cond_false,amr_,afV_,amp_,afT_]
theorem amR_(v:Vl):(bdL v).all (okA U8)=true:=by
 unfold bdL
 cases(v.k==0)with
 |true=>rfl
 |false=>exact afd_ v
theorem ahG_(s:ByteArray):(strL s).all (okA U8)=true:=by
 rw[List.all_eq_true]
 intro x hx
 unfold strL at hx
 obtain⟨i,_,rfl⟩:=List.mem_map.1 hx
 have h:strB s i<256:=by unfold strB;exact UInt8.toNat_lt _
 show(decide (0≤Int.ofNat (strB s i))&&decide (Int.ofNat (strB s i)<256))=true
 rw[Int.ofNat_eq_natCast]
 simp;omega
theorem alt_(s:St):(ptL s).all (okA U8)=true:=by unfold ptL;rw[List.all_cons,V9_,ahG_];rfl
theorem acf_{α:Type}{f:α→List U8}(h: ∀x,(f x).all (okA U8)=true)(l:List α):(l.flatMap f).all (okA U8)=true:=by
 rw[List.all_eq_true]
 intro x hx
 obtain⟨a,_,h2⟩:=List.mem_flatMap.1 hx
 have:=h a
 rw[List.all_eq_true]at this
 exact this x h2
theorem ams_(m:Ms):(hdM m).all (okA U8)=true:=by
 unfold hdM
 have hb:okA U8 ⟨cond m.lo 1 0⟩=true:=by cases m.lo<;>rfl
 simp only[List.all_append,List.all_cons,List.all_nil,V9_,afV_,afT_,amR_,hb,Bool.and_self,Bool.true_and,Bool.and_true]
theorem F0_(m:Ms):(pmV m).all (okA U8)=true:=by
 unfold pmV pmP
 simp only[List.all_append,List.all_cons,List.all_nil,V9_,ams_,acf_ alt_,acf_ afd_,Bool.and_self,Bool.true_and,Bool.and_true]
theorem ajQ_(m:Ms):(pmL m).all (okA U8)=true∧(pmL m).length≤200:=by
 unfold pmL
 cases mayM m with
 |false=>exact⟨rfl,Nat.zero_le _⟩
 |true=>
  cases h:decide (Int.ofNat (pmV m).length>200)with
  |true=>exact⟨rfl,Nat.zero_le _⟩
  |false=>
   have h:=of_decide_eq_false h
   rw[Int.ofNat_eq_natCast]at h
   exact⟨F0_ m,by show(pmV m).length≤200;omega⟩
def byL(m:Ms):List U8:=putL (pmL m)
theorem amK_:c5_ Tryz.prog 16 (okS1 Ms fun _=>true) (Q7_ Ms fun m=> .ret (.cell (ownL (byL m) 1))):=by
 refine abo_ follows fun m hm _=>⟨toldM5,100,20,fun _=>0,fun _=>[],fun _ _=>False,toldM5_ok,fun β hβ=> ?_⟩
 obtain⟨a1,a2,a3,a4⟩:=oMa hm
 show lawE Tryz.prog toldM5 100 20 β (fun _=>0) (cnOf 2 fun _=>[]) (fun _ _=>False) 16 [amV m 0 1] (mkS (viM m)) (outK fun r q=> ∃m2,a6_ q m2∧ansE (.ret (.cell (ownL (byL m) 1))) r (mkS m2))
 refine(apA_ m β _).mpr ?_
 try dsimp only
 have tm:=oPV (k:=m.k) (id:=m.id) (er:=m.er) (n:=m.n) (sq:=m.sq) (lo:=m.lo) (ev:=m.ev) (bk:=m.bd.k) (bi:=m.bd.i) (bf:=m.bd.f) (ps:=m.ps) (cps:=m.cps) (vs:=m.vs) (cvs:=m.cvs) a1 a2 a3 a4
 obtain⟨p1,p2⟩:=ajQ_ m
 have o1:ok1 U8 (fun l _=>l.all (okA U8)) [.cell (.fr 1 (pmL m).length 1 (encL (pmL m)))]=true:=(RowU.enc (pmL m)).ok1 p1 (by omega) (Nat.le_refl _)
 have l1:a4_ U8 (.fr 1 (pmL m).length 1 (encL (pmL m)))=pmL m:=(RowU.enc (pmL m)).list
 have hm':(⟨m.k,m.id,m.er,m.n,m.sq,m.lo,m.ev,⟨m.bd.k,m.bd.i,m.bd.f⟩,m.ps,m.cps,m.vs,m.cvs⟩:Ms)=m:=rfl
 simp only[dPV,hm']
 simp only[encZ,l1]
 refine nd_ (by simp) (nd_ (by simp) (nd_ ?_ (nd_ (by simp) (nd_ o1 ?_))))
 ·simp only[encZ]at tm
  show(Nat.beq 12 12&&Enc.ok Ms (nthT _)&&true)=true
  rw[tm];rfl
 ·exact o4_ (RowU.enc _) rfl
def toldM6:Told:=toldM5.tree 16 (okS1 Ms fun _=>true) (Q7_ Ms fun m=> .ret (.cell (ownL (byL m) 1)))
theorem toldM6_ok:a8_ Tryz.prog toldM6:=Told.tree_ok toldM5_ok amK_
def ssCs(s:Ss)(fb ins out sub:Value):List Value:=[.bool s.on,.int .i64 s.se,fb,.bool s.ba,ins,out,sub,.int .i64 s.num]
def zSs:Ss:=⟨false,0,[],1,false,[],1,[],1,[],1,0⟩
def sSs(se:Int):Ss:=⟨true,se,[],1,false,[],1,[],1,[],1,0⟩
def pkQ(k c:Nat)(n:Int):AObj:= .cells [.slice (some ⟨0,0,some 0⟩) k c,.int .i64 n] true 0
def nilV:Value:= .slice none 0 0
def slMd(b:Nat):List Nat:=cond (Nat.beq b 0) [2,3,4,5] (cond (Nat.beq b 2) [2,3,4,6] [2,3,4,7])
def lvMd(b:Nat):AX→List Nat:=fun _=>slMd b
def FMd(t:Nat)(i:Int):AFr:=mkF 87 [(2,.pointer (some ⟨1,0,none⟩)),(3,.pointer (some ⟨2,0,none⟩)),(4,.pointer (some ⟨3,0,none⟩)),(t,.int .i64 i)]
def SMd1(l:List U8)(c:Nat)(n se:Int)(ins:List Ms):ASt:=mkS [some (rowO .look l),some (.cells (ssCs zSs nilV nilV nilV nilV) true 0),some (pkQ l.length c n),some (.cells (ssCs (sSs se) nilV (.slice (some ⟨4,0,some 0⟩) ins.length 1) nilV nilV) true 0),some (rowO .mine ins)]
theorem ahq_(l:List U8)(c:Nat)(n se i:Int)(ins:List Ms)(β:Bs)(Nx:Kt):c0_ Tryz.prog toldM6 100 20 β (fun _=>0) (cnOf 1 slMd) (fun _ _=>False) 7 0 1 (lvMd 0) (FMd 5 i) (SMd1 l c n se ins) Nx=
 (fun(z0:Ms) (z1:AObj) (z2:Bool) (z4 z5 z6:Nat)=>((fun(z3:AObj) (z7 z8:Nat)=>(br (decide (i>(0:Int))) (need z2 (need z2 (need (true&&Nat.ble (0+List.length (Ms.ps z0)) z7) (need (true&&Nat.ble (0+List.length (Ms.vs z0)) z8) (need (Nat.ble z5 1000000) (need (true&&Nat.ble (0+List.length ins) z4) (Nx .normal (mkF 87 [(2,.pointer (some ⟨1,0,none⟩)),(3,.pointer (some ⟨2,0,none⟩)),(4,.pointer (some ⟨3,0,none⟩)),(5,.int .i64 (IntKind.wrap .i64 (i-(1:Int))))]) (mkS [some z3,some z1,some (.cells [.slice (some ⟨0,0,some 0⟩) z6 c,.int .i64 (Prod.snd (askM (Lr l) i n))] true 0),some (.cells [.bool true,.int .i64 se,.slice none 0 0,.bool false,.slice (some ⟨4,0,some 0⟩) z5 1,.slice none 0 0,.slice none 0 0,.int .i64 (0:Int)] true 0),some (.row .mine 12 0 z5 fun j k=>mrgT (Nat.blt j z4) (encL ins (0+j) k) (selT 12 1 [.sc (.int .i64 (Ms.k z0)),.sc (.int .i64 (Ms.id z0)),.sc (.int .i64 (Ms.er z0)),.sc (.int .i64 (Ms.n z0)),.sc (.int .i64 (Ms.sq z0)),.sc (.bool (Ms.lo z0)),.sc (.int .i64 (Ms.ev z0)),.sc (.int .i64 (Vl.k (Ms.bd z0))),.sc (.int .i64 (Vl.i (Ms.bd z0))),.sc (.float .f64 (Vl.f (Ms.bd z0))),.fr 1 z7 1 fun i_1=>encL (Ms.ps z0) (0+i_1),.fr 3 z8 1 fun i_1=>encL (Ms.vs z0) (0+i_1)] (j-List.length ins) k))])))))))) (Nx (.exit 0) (mkF 87 [(2,.pointer (some ⟨1,0,none⟩)),(3,.pointer (some ⟨2,0,none⟩)),(4,.pointer (some ⟨3,0,none⟩)),(5,.int .i64 i)]) (mkS [some z3,some z1,some (.cells [.slice (some ⟨0,0,some 0⟩) z6 c,.int .i64 n] true 0),some (.cells [.bool true,.int .i64 se,.slice none 0 0,.bool false,.slice (some ⟨4,0,some 0⟩) z4 1,.slice none 0 0,.slice none 0 0,.int .i64 (0:Int)] true 0),some (.row .mine 12 0 z4 (encL ins))])))) (.row .look 1 0 z6 (encL l)) (List.length (Ms.ps z0)) (List.length (Ms.vs z0)))) (Prod.fst (askM (Lr l) i n)) (.cells [.bool false,.int .i64 (0:Int),.slice none 0 0,.bool false,.slice none 0 0,.slice none 0 0,.slice none 0 0,.int .i64 (0:Int)] true 0) (Br l c&&List.all (Lr l) (okA U8)&&decide ((0:Int)≤n)&&true) ins.length (List.length ins+1) l.length:=by kernel_rfl
theorem ajS_{l:List U8}: ∀(r:Nat) (n:Int) (ps:List St),PkOk l n→PkOk l (paL l r n ps).2
 |0,n,ps,h=>h
 |r+1,n,ps,h=>ajS_ r _ _ (nF_ (m:=10) h (by omega)).2.2
theorem ajt_{l:List U8}: ∀(r:Nat) (n:Int) (ps:List St) (vs:List Vl),PkOk l n→PkOk l (wrL l r n ps vs).2.2
 |0,n,ps,vs,h=>h
 |r+1,n,ps,vs,h=>ajt_ r _ _ _ (ajs_ h)
theorem aaY_{l:List U8}{n:Int}(id:Int)(hp:PkOk l n):PkOk l (askM l id n).2:=by
 have h5:=(nF_ (m:=5) hp (by omega)).2.2
 unfold askM
 cases((numF l n 5).1==0)with
 |true=>exact ajS_ _ _ _ (nF_ (m:=3) h5 (by omega)).2.2
 |false=>
  cases((numF l n 5).1==1)with
  |true=>exact ajt_ _ _ _ _ (nF_ (m:=2) h5 (by omega)).2.2
  |false=>
   cases((numF l n 5).1==2)with
   |true=>exact(nF_ (m:=12) h5 (by omega)).2.2
   |false=>
    cases((numF l n 5).1==3)with
    |true=>
     have h9:=(nF_ (m:=9) h5 (by omega)).2.2
     have h4:=(nF_ (m:=4) h9 (by omega)).2.2
     have h4b:=(nF_ (m:=4) h4 (by omega)).2.2
     have h2:=(nF_ (m:=2) h4b (by omega)).2.2
     show PkOk l (qv l n).2
     unfold qv
     cases((qb l n).1==0)with
     |true=>exact afe_ 2 h2
     |false=>exact h2
    |false=>exact(nF_ (m:=4) h5 (by omega)).2.2
def capM(m:Ms):Ms:=⟨m.k,m.id,m.er,m.n,m.sq,m.lo,m.ev,m.bd,m.ps,1,m.vs,1⟩
def inL(l:List U8):Nat→Int→List Ms→List Ms×Int
 |0,n,ins=>(ins,n)
 |r+1,n,ins=>inL l r (askM l ((r+1:Nat):Int) n).2 (ins++[capM (askM l ((r+1:Nat):Int) n).1])
structure PM1 where
 r:Nat
 n:Int
 ins:List Ms
def aqh_(l:List U8)(c:Nat)(se:Int)(r:Nat)(n:Int):Nat→Kt→Prop:=fun b K=>K (.exit b) (FMd 5 0) (SMd1 l c (inL l r n []).2 se (inL l r n []).1)
def IMd1(l:List U8)(r0:Nat)(n0:Int)(p:PM1):Prop:=PkOk l p.n∧p.ins.length+p.r≤100∧inL l p.r p.n p.ins=inL l r0 n0 []
theorem aiA_{l:List U8}{c:Nat}{se:Int}{β:Bs}(hβ:β.X.length=1)(hc:c≤1){ex:Nat→Kt→Prop}{r0:Nat}{n0:Int}(hex: ∀K,ex 0 K→aqh_ l c se r0 n0 0 K)(hr:r0≤50)(hp:PkOk l n0):
  LoopJ Tryz.prog β ex 0 (a5_ Tryz.prog 7 0) (FMd 5 (r0:Nat)) (SMd1 l c n0 se []):=by
 refine b2_ (IMd1 l r0 n0) (fun p:PM1=>FMd 5 (p.r:Nat)) (fun p:PM1=>SMd1 l c p.n se p.ins) (fun p:PM1=>p.r) (fun p hI K hK=> ?_) ⟨r0,n0,[]⟩ ⟨hp,by show 0+r0≤100;omega,rfl⟩
 have hK:K (.exit 0) (FMd 5 0) (SMd1 l c (inL l r0 n0 []).2 se (inL l r0 n0 []).1):=hex K hK
 show J _ β _ _ _ (Nn β (IMd1 l r0 n0) (fun p:PM1=>p.r) (fun p:PM1=>FMd 5 (p.r:Nat)) (fun p:PM1=>SMd1 l c p.n se p.ins) p K)
 obtain⟨h1,h2,h3⟩:=hI
 refine rJ_ (E:=1) (lvs:=slMd) (un:=fun _=>0) (fuel:=100) (n:=20) (ex:=fun _ _=>False) follows toldM6_ok hβ (lv:=lvMd 0) ?_
 obtain⟨r,n,ins⟩:=p
 have h1:PkOk l n:=h1
 have h2:ins.length+r≤100:=h2
 refine(ahq_ l c n se (r:Nat) ins β _).mpr ?_
 try dsimp only
 rw[Z3_,h1.br hc,h1.all,h1.d]
 cases r with
 |zero=>
  refine a0_ (fun h=>by simp at h) (fun _=> ?_)
  rw[←h3]at hK
  exact Nn.exit (Seen.refl _ _ _) hK
 |succ r=>
  refine a0_ (fun _=> ?_) (fun h=>by simp at h)
  refine nd_ rfl (nd_ rfl (nd_ (by simp) (nd_ (by simp) (nd_ (Nat.ble_eq_true_of_le (by omega)) (nd_ (by simp) ?_)))))
  have hw:IntKind.wrap .i64 (((r+1:Nat):Int)-1)=(r:Int):=by rw[w64 (by omega) (by omega)];omega
  rw[hw]
  refine Nn.next (I:=IMd1 l r0 n0) (m:=fun p:PM1=>p.r) (F:=fun p:PM1=>FMd 5 (p.r:Nat)) (S:=fun p:PM1=>SMd1 l c p.n se p.ins) (p:=⟨r+1,n,ins⟩) ⟨r,(askM l ((r+1:Nat):Int) n).2,ins++[capM (askM l ((r+1:Nat):Int) n).1]⟩ ⟨aaY_ _ h1,by show(ins++[_]).length+r≤100;rw[List.length_append];simp;omega,h3⟩ (Nat.lt_succ_self _) ?_
  refine Seen.objs rfl fun q o2 h=> ?_
  have hl:(ins++[capM (askM l ((r+1:Nat):Int) n).1]).length=ins.length+1:=by simp
  match q,h with
  |0,h=>cases h;exact⟨_,rfl,rfl,fun _ _ _ h=>h⟩
  |1,h=>cases h;exact⟨_,rfl,rfl,fun _ _ _ h=>h⟩
  |2,h=>cases h;exact⟨_,rfl,rfl,fun _ _ _ h=>h⟩
  |3,h=>cases h;exact⟨_,by rw[hl];rfl,rfl,fun _ _ _ h=>h⟩
  |4,h=>cases h;exact⟨_,rfl,rfl,fun _ _ _ h=>k6_ (α:=Ms) (a:=capM (askM l ((r+1:Nat):Int) n).1) rfl rfl (fun _ _=>rfl) (fun j hj=>by
    have hj:j<12:=hj
    have z1:=encZ (askM l ((r+1:Nat):Int) n).1.ps
    have z2:=encZ (askM l ((r+1:Nat):Int) n).1.vs
    rw[z1,z2]
    match j,hj with
    |0,_=>rfl
    |1,_=>rfl
    |2,_=>rfl
    |3,_=>rfl
    |4,_=>rfl
    |5,_=>rfl
    |6,_=>rfl
    |7,_=>rfl
    |8,_=>rfl
    |9,_=>rfl
    |10,_=>rfl
    |11,_=>rfl) h⟩
  |_+5,h=>cases h
end Go.Proofs.YtachglcffimmeaaGreat.Ev
