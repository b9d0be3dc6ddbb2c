/-
  What has to hold: printed by the evaluator.
-/
import Derived.Test.YtachglcffimmeaaGreatR29
import Derived.Test.YtachglcffimmeaaGreatR27
import Derived.Test.YtachglcffimmeaaGreatR16
set_option linter.unusedVariables false
set_option maxRecDepth 1000000
set_option linter.unusedSimpArgs false
section
namespace Go.Proofs.YtachglcffimmeaaGreat.Ev
open Go Go.Proofs Go.RowKit
def slQ(b:Nat):List Nat:=cond (Nat.beq b 0) [1,3,55,56,57] [1,3,78,79,80]
def FQ0(m:Ms)(n:Nat)(k:Int):AFr:=mkF 93 [(1,.pointer (some ⟨2,0,none⟩)),(3,.slice (some ⟨3,0,some 0⟩) n 0),(55,.slice (some ⟨0,0,some 0⟩) m.ps.length m.cps),(56,.int .i64 m.ps.length),(57,.int .i64 k)]
def FQ2(m:Ms)(n:Nat)(k:Int):AFr:=mkF 93 [(1,.pointer (some ⟨2,0,none⟩)),(3,.slice (some ⟨3,0,some 0⟩) n 0),(78,.slice (some ⟨1,0,some 0⟩) m.vs.length m.cvs),(79,.int .i64 m.vs.length),(80,.int .i64 k)]
def exQ(m:Ms):Nat→Kt→Prop:=fun b K=>cond (Nat.beq b 0) (K (.exit 0) (FQ0 m (pmP m).length m.ps.length) (SPm m (pmP m))) (K (.exit 2) (FQ2 m (pmV m).length m.vs.length) (SPm m (pmV m)))
theorem akD_(m:Ms)(β:Bs)(K:AE→List (Option AObj)→Prop):lawE Tryz.prog toldR6 100 20 β (fun _=>0) (cnOf 2 slQ) (exQ m) 52 [amV m 0 1] (mkS [some (rowO .look m.ps),some (rowO .look m.vs)]) (outC 2 K)=
 (fun(z3 z10 z11 z12 z13 z20 z24:List Td) (z5 z9 z16 z18 z19 z21 z23 z31:Nat) (z27:Code) (z28 z32 z33:Value) (z29 z30 z34:Addr)=>((fun(z2 z6 z7:AObj) (z4 z14 z22:List Td) (z17 z26:Nat)=>((fun(z1:Vl) (z25:Prop)=>((fun(z0:Prop) (z8 z15:Nat)=>(need (true&&Nat.ble (0+List.length (Ms.ps m)) z9) (need (true&&Nat.ble (0+List.length (Ms.vs m)) z16) (need (okA1 (Sc Ms) (fun x=>true) [Ta.agg z4]) (br (!mayQ (Enc.dec (nthT z4))) z25 (br (zQ z1) (LoopJ Tryz.prog β (exQ m) 0 z27 (mkF 93 [(1,.pointer (some z34)),(3,.slice (some z29) 19 0),(55,.slice (some z30) z9 (Ms.cps m)),(56,.int .i64 (Int.ofNat z9)),(57,.int .i64 (0:Int))]) (mkS [some z6,some z7,some z2,some (.row .mine 1 0 19 fun j k=>mrgT (Nat.blt j z26) (mrgT (Nat.blt (0+j) z17) (mrgT (Nat.blt (0+(0+j)) z18) (mrgT (Nat.blt (0+(0+(0+j))) z19) (mrgT (Nat.blt (0+(0+(0+(0+j)))) z23) (mrgT (Nat.blt (0+(0+(0+(0+(0+j))))) (1+(1+1))) (mrgT (Nat.blt (0+(0+(0+(0+(0+(0+j)))))) 1) (mrgT (Nat.blt (0+(0+(0+(0+(0+(0+(0+j))))))) 0) (nthT z20 k) (selT 1 1 z24 (0+(0+(0+(0+(0+(0+(0+j))))))-0) k)) (selT 1 (1+1) z11 (0+(0+(0+(0+(0+(0+j)))))-1) k)) (selT 1 (1+1) z13 (0+(0+(0+(0+(0+j))))-(1+(1+1))) k)) (selT 1 (1+1) z12 (0+(0+(0+(0+j)))-z23) k)) (selT 1 2 z10 (0+(0+(0+j))-z19) k)) (selT 1 z5 z3 (0+(0+j)-z18) k)) (selT 1 1 z20 (0+j-z17) k)) (selT 1 1 z22 (j-z26) k))])∧need (Nat.ble z21 1000000) z0) (need (okA1 (Sc Vl) (fun v=>okPq (Sc.x v)) [Ta.agg z14]) (need (true&&Nat.ble (0+List.length (pvL z1)) (List.length (pvL z1))) (need (Nat.ble z8 1000000) (need (Nat.ble z15 1000000) (need (true&&Nat.ble (0+z8) z8) (LoopJ Tryz.prog β (exQ m) 0 z27 (mkF 93 [(1,.pointer (some z34)),(3,.slice (some z29) z15 0),(55,.slice (some z30) z9 (Ms.cps m)),(56,.int .i64 (Int.ofNat z9)),(57,.int .i64 (0:Int))]) (mkS [some z6,some z7,some z2,some (.row .mine 1 0 z15 fun j k=>mrgT (Nat.blt j z8) (mrgT (Nat.blt (0+j) z17) (mrgT (Nat.blt (0+(0+j)) z18) (mrgT (Nat.blt (0+(0+(0+j))) z19) (mrgT (Nat.blt (0+(0+(0+(0+j)))) z23) (mrgT (Nat.blt (0+(0+(0+(0+(0+j))))) (1+(1+1))) (mrgT (Nat.blt (0+(0+(0+(0+(0+(0+j)))))) 1) (mrgT (Nat.blt (0+(0+(0+(0+(0+(0+(0+j))))))) 0) (nthT z20 k) (selT 1 1 z24 (0+(0+(0+(0+(0+(0+(0+j))))))-0) k)) (selT 1 (1+1) z11 (0+(0+(0+(0+(0+(0+j)))))-1) k)) (selT 1 (1+1) z13 (0+(0+(0+(0+(0+j))))-(1+(1+1))) k)) (selT 1 (1+1) z12 (0+(0+(0+(0+j)))-z23) k)) (selT 1 2 z10 (0+(0+(0+j))-z19) k)) (selT 1 z5 z3 (0+(0+j)-z18) k)) (encL (pvL z1) (0+(0+j-z17)) k)) (selT 1 1 z22 (j-z8) k))])∧need (Nat.ble z21 1000000) z0)))))))))))) (need (true&&Nat.ble (0+List.length (pmP m)) (List.length (pmP m))) (LoopJ Tryz.prog β (exQ m) 2 (a5_ Tryz.prog 52 2) (mkF 93 [(1,.pointer (some z34)),(3,.slice (some z29) z21 0),(78,.slice (some ⟨1,0,some 0⟩) z16 (Ms.cvs m)),(79,.int .i64 (Int.ofNat z16)),(80,.int .i64 (0:Int))]) (mkS [some z6,some z7,some z2,some (.row .mine 1 0 z21 fun j k=>mrgT (Nat.blt j (List.length (pmP m))) (encL (pmP m) (0+j) k) (selT 1 1 [.sc (.int .u8 (IntKind.wrap .u8 (Int.ofNat z16)))] (j-List.length (pmP m)) k))])∧br (decide (Int.ofNat z31>(200:Int))) z25 (K (.returned (.slice (some ⟨2,0,some 0⟩) z31 0)) [some z6,some z7,some (.row .mine 1 0 z31 (encL (pmV m)))]))) (1+(1+1)+(1+1)+(1+1)+2+z5+List.length (pvL z1)) (1+(1+1)+(1+1)+(1+1)+2+z5+List.length (pvL z1)+1))) (Enc.dec (nthT z14)) (K (.returned (.slice none 0 0)) [some z6,some z7]))) (.cells [.int .i64 (Ms.k m),.int .i64 (Ms.id m),.int .i64 (Ms.er m),.int .i64 (Ms.n m),.int .i64 (Ms.sq m),.bool (Ms.lo m),.int .i64 (Ms.ev m),.int .i64 (Vl.k (Ms.bd m)),.int .i64 (Vl.i (Ms.bd m)),.float .f64
 (Vl.f (Ms.bd m)),.slice (some z30) z9 (Ms.cps m),.slice (some ⟨1,0,some 0⟩) z16 (Ms.cvs m)] true 0) (.row .look 1 0 z9 (encL (Ms.ps m))) (.row .look 3 0 z16 (encL (Ms.vs m))) [.sc (.int .i64 (Ms.k m)),.sc (.int .i64 (Ms.id m)),.sc (.int .i64 (Ms.er m)),.sc (.int .i64 (Ms.n m)),.sc (.int .i64 (Ms.sq m)),.sc (.bool (Ms.lo m)),.sc (.int .i64 (Ms.ev m)),.sc z32,.sc z33,.sc z28,.fr 1 z9 (Ms.cps m) fun i=>encL (Ms.ps m) (0+i),.fr 3 z16 (Ms.cvs m) fun i=>encL (Ms.vs m) (0+i)] [.sc z32,.sc z33,.sc z28] [.sc (.int .u8 (IntKind.wrap .u8 (Int.ofNat z9)))] (1+(1+1)+(1+1)+(1+1)+2+z5) (1+(1+1)+(1+1)+(1+1)+2+z5+1))) [.sc (.int .u8 (IntKind.wrap .u8 (Int.fdiv (Ms.ev m) (72057594037927936:Int)))),.sc (.int .u8 (IntKind.wrap .u8 (Int.fdiv (Ms.ev m) (281474976710656:Int)))),.sc (.int .u8 (IntKind.wrap .u8 (Int.fdiv (Ms.ev m) (1099511627776:Int)))),.sc (.int .u8 (IntKind.wrap .u8 (Int.fdiv (Ms.ev m) (4294967296:Int)))),.sc (.int .u8 (IntKind.wrap .u8 (Int.fdiv (Ms.ev m) (16777216:Int)))),.sc (.int .u8 (IntKind.wrap .u8 (Int.fdiv (Ms.ev m) (65536:Int)))),.sc (.int .u8 (IntKind.wrap .u8 (Int.fdiv (Ms.ev m) (256:Int)))),.sc (.int .u8 (IntKind.wrap .u8 (Int.fdiv (Ms.ev m) (1:Int))))] [.sc (.int .u8 (IntKind.wrap .u8 (Ms.er m))),.sc (.int .u8 (bif ArgE.get (Ta.cell (.sc (.bool (Ms.lo m))))then(1:Int)else(0:Int)))] [.sc (.int .u8 (IntKind.wrap .u8 (Int.fdiv (Ms.id m) (256:Int)))),.sc (.int .u8 (IntKind.wrap .u8 (Int.fdiv (Ms.id m) (1:Int))))] [.sc (.int .u8 (IntKind.wrap .u8 (Int.fdiv (Ms.sq m) (256:Int)))),.sc (.int .u8 (IntKind.wrap .u8 (Int.fdiv (Ms.sq m) (1:Int))))] [.sc (.int .u8 (IntKind.wrap .u8 (Int.fdiv (Ms.n m) (256:Int)))),.sc (.int .u8 (IntKind.wrap .u8 (Int.fdiv (Ms.n m) (1:Int))))] [.sc (.int .u8 (0:Int))] [.sc (.int .u8 (IntKind.wrap .u8 (Ms.k m)))] (1+1+1+1+1+1+1+1) (List.length (Ms.ps m)) (List.length (Ms.vs m)) (1+(1+1)+(1+1)+(1+1)+2) (1+(1+1)+(1+1)+(1+1)) (List.length (pmP m)+1) (1+(1+1)+(1+1)) (List.length (pmV m)) (a5_ Tryz.prog 52 0) (.float .f64 (Vl.f (Ms.bd m))) (.int .i64 (Vl.k (Ms.bd m))) (.int .i64 (Vl.i (Ms.bd m))) ⟨3,0,some 0⟩ ⟨0,0,some 0⟩ ⟨2,0,none⟩:=by kernel_rfl
theorem acB_(m:Ms)(B:List U8)(k:Int)(β:Bs)(Nx:Kt):c0_ Tryz.prog toldR6 100 20 β (fun _=>0) (cnOf 2 slQ) (fun _ _=>False) 52 0 2 (fun _=>slQ 0) (FQ0 m B.length k) (SPm m B) Nx=
 (fun(z2 z4 z8 z9:Nat) (z5:AObj) (z7:Addr)=>((fun(z0 z6:AObj) (z1:ByteArray)=>((fun(z3:Nat)=>(br (decide (k<Int.ofNat z2)) (need (decide ((0:Int)≤k)) (need (Nat.blt (Int.toNat k) z2) (need (Nat.ble 0 z9&&Nat.blt z9 z2) (need (Nat.ble z4 1000000) (need (true&&Nat.ble (0+List.length B) z8) (need (Nat.ble z3 1000000) (need (true&&Nat.ble (0+z4) z4) (Nx .normal (mkF 93 [(1,.pointer (some ⟨2,0,none⟩)),(3,.slice (some ⟨3,0,some 0⟩) z3 0),(55,.slice (some z7) z2 (Ms.cps m)),(56,.int .i64 (Int.ofNat z2)),(57,.int .i64 (IntKind.wrap .i64 (k+(1:Int))))]) (mkS [some z6,some z5,some z0,some (.row .mine 1 0 z3 fun j k_1=>mrgT (Nat.blt j z4) (mrgT (Nat.blt (0+j) z8) (encL B (0+(0+j)) k_1) (selT 1 1 [.sc (.int .u8 (IntKind.wrap .u8 (Int.ofNat (ByteArray.size z1))))] (0+j-List.length B) k_1)) (.sc (.int .u8 (Int.ofNat (strB z1 (j-z4))))))]))))))))) (Nx (.exit 0) (mkF 93 [(1,.pointer (some ⟨2,0,none⟩)),(3,.slice (some ⟨3,0,some 0⟩) z8 0),(55,.slice (some z7) z2 (Ms.cps m)),(56,.int .i64 (Int.ofNat z2)),(57,.int .i64 k)]) (mkS [some z6,some z5,some z0,some (.row .mine 1 0 z8 (encL B))])))) (List.length B+1+ByteArray.size z1))) (.cells [.int .i64 (Ms.k m),.int .i64 (Ms.id m),.int .i64 (Ms.er m),.int .i64 (Ms.n m),.int .i64 (Ms.sq m),.bool (Ms.lo m),.int .i64 (Ms.ev m),.int .i64 (Vl.k (Ms.bd m)),.int .i64 (Vl.i (Ms.bd m)),.float .f64 (Vl.f (Ms.bd m)),.slice (some z7) z2 (Ms.cps m),.slice (some ⟨1,0,some 0⟩) (List.length (Ms.vs m)) (Ms.cvs m)] true 0) (.row .look 1 0 z2 (encL (Ms.ps m))) (St.s (List.getD (Ms.ps m) z9 Enc.dflt)))) (List.length (Ms.ps m)) (List.length B+1) B.length (0+Int.toNat k) (.row .look 3 0 (List.length (Ms.vs m)) (encL (Ms.vs m))) ⟨0,0,some 0⟩:=by kernel_rfl
theorem acA_(m:Ms)(B:List U8)(k:Int)(β:Bs)(Nx:Kt):c0_ Tryz.prog toldR6 100 20 β (fun _=>0) (cnOf 2 slQ) (fun _ _=>False) 52 2 2 (fun _=>slQ 2) (FQ2 m B.length k) (SPm m B) Nx=
 (fun(z2 z9 z10:Nat) (z5:AObj) (z8:Addr)=>((fun(z1 z7:AObj) (z4:Vl)=>((fun(z0:List Td)=>((fun(z3:List U8)=>((fun(z6:Nat)=>(br (decide (k<Int.ofNat z2)) (need (decide ((0:Int)≤k)) (need (Nat.blt (Int.toNat k) z2) (need (Nat.ble 0 z10&&Nat.blt z10 z2) (need (okA1 (Sc Vl) (fun v=>okPq (Sc.x v)) [Ta.agg z0]) (need (true&&Nat.ble (0+List.length z3) z3.length) (need (Nat.ble z6 1000000) (need (true&&Nat.ble (0+List.length B) z9) (Nx .normal (mkF 93 [(1,.pointer (some ⟨2,0,none⟩)),(3,.slice (some ⟨3,0,some 0⟩) z6 0),(78,.slice (some z8) z2 (Ms.cvs m)),(79,.int .i64 (Int.ofNat z2)),(80,.int .i64 (IntKind.wrap .i64 (k+(1:Int))))]) (mkS [some z5,some z7,some z1,some (.row .mine 1 0 z6 fun j k_1=>mrgT (Nat.blt j z9) (encL B (0+j) k_1) (encL z3 (0+(j-List.length B)) k_1))]))))))))) (Nx (.exit 2) (mkF 93 [(1,.pointer (some ⟨2,0,none⟩)),(3,.slice (some ⟨3,0,some 0⟩) z9 0),(78,.slice (some z8) z2 (Ms.cvs m)),(79,.int .i64 (Int.ofNat z2)),(80,.int .i64 k)]) (mkS [some z5,some z7,some z1,some (.row .mine 1 0 z9 (encL B))])))) (List.length B+List.length z3))) (pvL (Enc.dec (nthT z0))))) [.sc (.int .i64 (Vl.k z4)),.sc (.int .i64 (Vl.i z4)),.sc (.float .f64 (Vl.f z4))])) (.cells [.int .i64 (Ms.k m),.int .i64 (Ms.id m),.int .i64 (Ms.er m),.int .i64 (Ms.n m),.int .i64 (Ms.sq m),.bool (Ms.lo m),.int .i64 (Ms.ev m),.int .i64 (Vl.k (Ms.bd m)),.int .i64 (Vl.i (Ms.bd m)),.float .f64 (Vl.f (Ms.bd m)),.slice (some ⟨0,0,some 0⟩) (List.length (Ms.ps m)) (Ms.cps m),.slice (some z8) z2 (Ms.cvs m)] true 0) (.row .look 3 0 z2 (encL (Ms.vs m))) (List.getD (Ms.vs m) z10 Enc.dflt))) (List.length (Ms.vs m)) B.length (0+Int.toNat k) (.row .look 1 0 (List.length (Ms.ps m)) (encL (Ms.ps m))) ⟨1,0,some 0⟩:=by kernel_rfl
theorem RowU.sel8(a b c d e f g h:Int):RowU (fun i k=>selT 1 (1+1+1+1+1+1+1+1) [.sc (.int .u8 a),.sc (.int .u8 b),.sc (.int .u8 c),.sc (.int .u8 d),.sc (.int .u8 e),.sc (.int .u8 f),.sc (.int .u8 g),.sc (.int .u8 h)] i k) (1+1+1+1+1+1+1+1) [⟨a⟩,⟨b⟩,⟨c⟩,⟨d⟩,⟨e⟩,⟨f⟩,⟨g⟩,⟨h⟩]:=⟨rfl,fun i hi=>match i,hi with
 |0,_=>rfl
 |1,_=>rfl
 |2,_=>rfl
 |3,_=>rfl
 |4,_=>rfl
 |5,_=>rfl
 |6,_=>rfl
 |7,_=>rfl,fun i=>match i with
 |0=>⟨_,rfl⟩
 |1=>⟨_,rfl⟩
 |2=>⟨_,rfl⟩
 |3=>⟨_,rfl⟩
 |4=>⟨_,rfl⟩
 |5=>⟨_,rfl⟩
 |6=>⟨_,rfl⟩
 |i+7=>⟨_,rfl⟩⟩
structure QOk (m:Ms):Prop where
 id0:0≤m.id
 id1:m.id≤65535
 n0:0≤m.n
 n1:m.n≤65535
 sq0:0≤m.sq
 sq1:m.sq≤65535
 ev0:0≤m.ev
 ev1:m.ev≤1125899906842624
 er0:0≤m.er
 er1:m.er≤13
 ps:m.ps.length≤5
 vs:m.vs.length≤5
 pok:pOkB m=true
 vok: ∀v∈m.vs,i0_ v=true
 bd:zQ m.bd=true∨i0_ m.bd=true
theorem ajk_{m:Ms}(h:anyP m=false):pOkB m=true:=by
 unfold anyP at h
 rw[P4_]at h
 unfold pOkB
 rw[List.all_eq_true]
 intro s hs
 obtain⟨j,hj,rfl⟩:=List.getElem_of_mem hs
 rw[Bool.eq_false_iff]at h
 have hb:badP (m.ps.getD j Enc.dflt)=false:=by
  cases hq:badP (m.ps.getD j Enc.dflt)with
  |false=>rfl
  |true=>exact absurd (List.any_eq_true.2 ⟨j,List.mem_range.2 hj,by simpa using hq⟩) h
 have e:m.ps.getD j Enc.dflt=m.ps[j]:=by simp[List.getD,hj]
 rw[e]at hb
 unfold badP at hb
 rw[Bool.or_eq_false_iff]at hb
 simp only[hb.1,hb.2];rfl
theorem ajj_{m:Ms}(h:anyV m=false): ∀v∈m.vs,i0_ v=true:=by
 unfold anyV at h
 rw[P4_]at h
 intro v hv
 obtain⟨j,hj,rfl⟩:=List.getElem_of_mem hv
 rw[Bool.eq_false_iff]at h
 have hb:badV (m.vs.getD j Enc.dflt)=false:=by
  cases hq:badV (m.vs.getD j Enc.dflt)with
  |false=>rfl
  |true=>exact absurd (List.any_eq_true.2 ⟨j,List.mem_range.2 hj,by simpa using hq⟩) h
 have e:m.vs.getD j Enc.dflt=m.vs[j]:=by simp[List.getD,hj]
 rw[e]at hb
 unfold badV at hb
 simpa using hb
theorem anW_{m:Ms}(h:tlQ m=true):QOk m:=by
 unfold tlQ at h
 cases h1:decide (m.id≥0)with
 |false=>rw[h1]at h;cases h
 |true=>
 cases h2:decide (m.id≤65535)with
 |false=>rw[h1,h2]at h;cases h
 |true=>
 cases h3:decide (m.n≥0)with
 |false=>rw[h1,h2,h3]at h;cases h
 |true=>
 cases h4:decide (m.n≤65535)with
 |false=>rw[h1,h2,h3,h4]at h;cases h
 |true=>
 cases h5:decide (m.sq≥0)with
 |false=>rw[h1,h2,h3,h4,h5]at h;cases h
 |true=>
 cases h6:decide (m.sq≤65535)with
 |false=>rw[h1,h2,h3,h4,h5,h6]at h;cases h
 |true=>
 cases h7:decide (m.ev≥0)with
 |false=>rw[h1,h2,h3,h4,h5,h6,h7]at h;cases h
 |true=>
 cases h8:decide (m.ev≤1125899906842624)with
 |false=>rw[h1,h2,h3,h4,h5,h6,h7,h8]at h;cases h
 |true=>
 cases h9:decide (m.er≥0)with
 |false=>rw[h1,h2,h3,h4,h5,h6,h7,h8,h9]at h;cases h
 |true=>
 cases h10:decide (m.er≤13)with
 |false=>rw[h1,h2,h3,h4,h5,h6,h7,h8,h9,h10]at h;cases h
 |true=>
 cases h11:decide (Int.ofNat m.ps.length>5)with
 |true=>rw[h1,h2,h3,h4,h5,h6,h7,h8,h9,h10,h11]at h;cases h
 |false=>
 cases h12:anyP m with
 |true=>rw[h1,h2,h3,h4,h5,h6,h7,h8,h9,h10,h11,h12]at h;cases h
 |false=>
 cases h13:decide (Int.ofNat m.vs.length>5)with
 |true=>rw[h1,h2,h3,h4,h5,h6,h7,h8,h9,h10,h11,h12,h13]at h;cases h
 |false=>
 cases h14:anyV m with
 |true=>rw[h1,h2,h3,h4,h5,h6,h7,h8,h9,h10,h11,h12,h13,h14]at h;cases h
 |false=>
 rw[h1,h2,h3,h4,h5,h6,h7,h8,h9,h10,h11,h12,h13,h14]at h
 have hb:zQ m.bd=true∨i0_ m.bd=true:=by
  cases hz:zQ m.bd with
  |true=>exact .inl rfl
  |false=>rw[hz]at h;exact .inr h
 have k11:=of_decide_eq_false h11
 have k13:=of_decide_eq_false h13
 simp only[Int.ofNat_eq_natCast]at k11 k13
 exact⟨of_decide_eq_true h1,of_decide_eq_true h2,of_decide_eq_true h3,of_decide_eq_true h4,of_decide_eq_true h5,of_decide_eq_true h6,of_decide_eq_true h7,of_decide_eq_true h8,of_decide_eq_true h9,of_decide_eq_true h10,by omega,by omega,ajk_ h12,ajj_ h14,hb⟩
theorem alW_{m:Ms}(h:mayQ m=true):QOk m:=by
 cases ht:tlQ m with
 |true=>exact anW_ ht
 |false=>
  have:mayQ m=false:=by
   unfold mayQ
   simp only[ht,Bool.cond_self]
  rw[this]at h;cases h
def fV(v:Vl):Bool:=v.k==5&&Nat.blt v.f 18446744073709551616||Nat.beq v.f 0
def fitM(m:Ms):Bool:=m.vs.all fV&&fV m.bd
theorem zQ_k{v:Vl}(h:zQ v=true):v.k=0:=by
 unfold zQ at h
 cases hk:(v.k==0)with
 |true=>exact eq_of_beq hk
 |false=>rw[hk]at h;cases h
theorem aiC_{v:Vl}(h:i0_ v=true):(v.k==0)=false:=by
 rcases mayVV_kind h with⟨h,_⟩|⟨h,_⟩|⟨h,_⟩|⟨h,_⟩|h<;>rw[h]<;>rfl
theorem hi2f{x:Int}(h0:0≤x)(h1:x≤65535):[(⟨IntKind.wrap .u8 (Int.fdiv x 256)⟩:U8),⟨IntKind.wrap .u8 (Int.fdiv x 1)⟩]=hi2 (IntKind.wrap .u64 x):=by
 obtain⟨N,rfl⟩:=Int.eq_ofNat_of_zero_le h0
 have hw:IntKind.wrap .u64 (N:Int)=(N:Int):=by
  unfold IntKind.wrap
  simp[IntKind.signed,IntKind.bits]
  omega
 rw[hw,afU_ (by omega),fdl1,fdl2];rfl
theorem hi8f{x:Int}(h0:0≤x)(h1:x≤1125899906842624):[(⟨IntKind.wrap .u8 (Int.fdiv x 72057594037927936)⟩:U8),⟨IntKind.wrap .u8 (Int.fdiv x 281474976710656)⟩,⟨IntKind.wrap .u8 (Int.fdiv x 1099511627776)⟩,⟨IntKind.wrap .u8 (Int.fdiv x 4294967296)⟩,⟨IntKind.wrap .u8 (Int.fdiv x 16777216)⟩,⟨IntKind.wrap .u8 (Int.fdiv x 65536)⟩,⟨IntKind.wrap .u8 (Int.fdiv x 256)⟩,⟨IntKind.wrap .u8 (Int.fdiv x 1)⟩]=hi8 (IntKind.wrap .u64 x):=by
 obtain⟨N,rfl⟩:=Int.eq_ofNat_of_zero_le h0
 have hw:IntKind.wrap .u64 (N:Int)=(N:Int):=by
  unfold IntKind.wrap
  simp[IntKind.signed,IntKind.bits]
  omega
 rw[hw,aaE_ (by omega),fdl1,fdl2,fdl3,fdl4,fdl5,fdl6,fdl7,fdl8];rfl
theorem J9_{m:Ms}{β:Bs}(hβ:β.X.length=2)(hp:pOkB m=true)(h5:m.ps.length≤5):LoopJ Tryz.prog β (exQ m) 0 (a5_ Tryz.prog 52 0) (FQ0 m (PB m 0).length (0:Nat)) (SPm m (PB m 0)):=by
 refine C1_ (N:=m.ps.length) (F:=fun k=>FQ0 m (PB m k).length (k:Nat)) (S:=fun k=>SPm m (PB m k)) (fun K hK=> ?_) (fun k Nx hk h1 h2=> ?_)
 ·have hK:K (.exit 0) (FQ0 m (pmP m).length m.ps.length) (SPm m (pmP m)):=hK
  rw[U5_]at hK
  exact hK
 refine rJ_ (E:=2) (lvs:=slQ) (un:=fun _=>0) (fuel:=100) (n:=20) (ex:=fun _ _=>False) follows toldR6_ok hβ (lv:=fun _=>slQ 0) ?_
 rw[acB_]
 try dsimp only
 have hlen:=M1_ hp k hk
 have e0:Int.toNat (k:Int)=k:=Int.toNat_natCast k
 simp only[e0,Nat.zero_add]
 refine a0_ (fun hlt=> ?_) (fun hlt=> ?_)
 ·have hlt:k<m.ps.length:=by simpa using hlt
  have hw:IntKind.wrap .i64 ((k:Int)+1)=((k+1:Nat):Int):=w64 (by omega) (by omega)
  have c3:Nat.blt k m.ps.length=true:=by simpa using hlt
  have hsz:=afm_ hp hlt
  rw[hw]
  refine nd_ (by simp) (nd_ c3 (nd_ (by rw[c3];rfl) (nd_ (Nat.ble_eq_true_of_le (by omega)) (nd_ (by simp) (nd_ (Nat.ble_eq_true_of_le (by omega)) (nd_ (by simp) ?_))))))
  have hl:(PB m (k+1)).length=(PB m k).length+1+(m.ps.getD k Enc.dflt).s.size:=by rw[H9_ hlt,List.length_append,O1_];omega
  have hR:=(((RowU.enc (PB m k)).app (RowU.sel1 (IntKind.wrap .u8 (Int.ofNat (m.ps.getD k Enc.dflt).s.size)))).app (RowU.strS (m.ps.getD k Enc.dflt).s)).to (M:=PB m (k+1)) rfl (by rw[H9_ hlt,List.append_assoc];rfl)
  rw[←hl]
  rw[←hl]at hR
  refine h1 hlt _ _ (Seen.objs rfl fun q o2 h=> ?_)
  match q,h with
  |0,h=>cases h;exact⟨_,rfl,rfl,fun _ _ _ h=>h⟩
  |1,h=>cases h;exact⟨_,rfl,rfl,fun _ _ _ h=>h⟩
  |2,h=>cases h;exact⟨_,rfl,rfl,fun _ _ _ h=>h⟩
  |3,h=>cases h;exact⟨_,rfl,rfl,fun _ _ _ h=>hR.obj _ _ _ h⟩
  |_+4,h=>cases h
 ·have hge: ¬k<m.ps.length:=by simpa using hlt
  have hkn:k=m.ps.length:=by omega
  subst hkn
  exact h2 rfl
theorem afs_{p:Sc Vl→Bool}{v:Vl}(h:p ⟨v⟩=true):okA1 (Sc Vl) p [.agg [Td.sc (.int .i64 v.k),Td.sc (.int .i64 v.i),Td.sc (.float .f64 v.f)]]=true:=h
theorem acN_{m:Ms}{β:Bs}(hβ:β.X.length=2)(hp:pOkB m=true)(h5:m.ps.length≤5)(hv5:m.vs.length≤5)(hv: ∀v∈m.vs,okPq v=true):LoopJ Tryz.prog β (exQ m) 2 (a5_ Tryz.prog 52 2) (FQ2 m (VB m 0).length (0:Nat)) (SPm m (VB m 0)):=by
 refine C1_ (N:=m.vs.length) (F:=fun k=>FQ2 m (VB m k).length (k:Nat)) (S:=fun k=>SPm m (VB m k)) (fun K hK=> ?_) (fun k Nx hk h1 h2=> ?_)
 ·have hK:K (.exit 2) (FQ2 m (pmV m).length m.vs.length) (SPm m (pmV m)):=hK
  rw[ajP_]at hK
  exact hK
 refine rJ_ (E:=2) (lvs:=slQ) (un:=fun _=>0) (fuel:=100) (n:=20) (ex:=fun _ _=>False) follows toldR6_ok hβ (lv:=fun _=>slQ 2) ?_
 rw[acA_]
 try dsimp only
 have hlen:=ahd_ hp h5 k hk
 have e0:Int.toNat (k:Int)=k:=Int.toNat_natCast k
 simp only[e0,Nat.zero_add]
 refine a0_ (fun hlt=> ?_) (fun hlt=> ?_)
 ·have hlt:k<m.vs.length:=by simpa using hlt
  have hw:IntKind.wrap .i64 ((k:Int)+1)=((k+1:Nat):Int):=w64 (by omega) (by omega)
  have c3:Nat.blt k m.vs.length=true:=by simpa using hlt
  have hd:(Enc.dec (nthT [Td.sc (.int .i64 (m.vs.getD k Enc.dflt).k),Td.sc (.int .i64 (m.vs.getD k Enc.dflt).i),Td.sc (.float .f64 (m.vs.getD k Enc.dflt).f)]):Vl)=m.vs.getD k Enc.dflt:=rfl
  have hvk:okPq (m.vs.getD k Enc.dflt)=true:=by
   have e:m.vs.getD k Enc.dflt=m.vs[k]:=by simp[List.getD,hlt]
   rw[e]
   exact hv _ (List.getElem_mem hlt)
  have hpl:=(s3_ (m.vs.getD k Enc.dflt)).1
  rw[hw,hd]
  refine nd_ (by simp) (nd_ c3 (nd_ (by rw[c3];rfl) (nd_ (afs_ hvk) (nd_ (by simp) (nd_ (Nat.ble_eq_true_of_le (by omega)) (nd_ (by simp) ?_))))))
  have hl:(VB m (k+1)).length=(VB m k).length+(pvL (m.vs.getD k Enc.dflt)).length:=by rw[R0_ hlt,List.length_append]
  have hR:=((RowU.enc (VB m k)).app (RowU.enc (pvL (m.vs.getD k Enc.dflt)))).to (M:=VB m (k+1)) rfl (by rw[R0_ hlt])
  rw[←hl]
  rw[←hl]at hR
  refine h1 hlt _ _ (Seen.objs rfl fun q o2 h=> ?_)
  match q,h with
  |0,h=>cases h;exact⟨_,rfl,rfl,fun _ _ _ h=>h⟩
  |1,h=>cases h;exact⟨_,rfl,rfl,fun _ _ _ h=>h⟩
  |2,h=>cases h;exact⟨_,rfl,rfl,fun _ _ _ h=>h⟩
  |3,h=>cases h;exact⟨_,rfl,rfl,fun _ _ _ h=>hR.obj _ _ _ h⟩
  |_+4,h=>cases h
 ·have hge: ¬k<m.vs.length:=by simpa using hlt
  have hkn:k=m.vs.length:=by omega
  subst hkn
  exact h2 rfl
def putQ(m:Ms):List U8:=cond (mayQ m) (cond (decide (Int.ofNat (pmV m).length>200)) [] (pmV m)) []
def putC(m:Ms):Nat:=cond (mayQ m) (cond (decide (Int.ofNat (pmV m).length>200)) 1 0) 1
theorem U3_{m:Ms}{β:Bs}{n:Nat}{e:Nat→Nat→Td}(hR:RowU e n (hdM m)):Seen β (FQ0 m n (0:Nat)) (mkS [some (rowO .look m.ps),some (rowO .look m.vs),some (amC m 0 1),some (.row .mine 1 0 n e)]) (FQ0 m (PB m 0).length (0:Nat)) (SPm m (PB m 0)):=by
 have h0:PB m 0=hdM m:=by simp[PB]
 have hn:n=(PB m 0).length:=by rw[h0];exact hR.1.symm▸rfl
 subst hn
 rw[h0]at hR ⊢
 refine Seen.objs rfl fun q o2 h=> ?_
 match q,h with
 |0,h=>cases h;exact⟨_,rfl,rfl,fun _ _ _ h=>h⟩
 |1,h=>cases h;exact⟨_,rfl,rfl,fun _ _ _ h=>h⟩
 |2,h=>cases h;exact⟨_,rfl,rfl,fun _ _ _ h=>h⟩
 |3,h=>cases h;exact⟨_,rfl,rfl,fun _ _ _ h=>hR.obj _ _ _ h⟩
 |_+4,h=>cases h
theorem afg_{m:Ms}{β:Bs}{n:Nat}{e:Nat→Nat→Td}(hR:RowU e n (VB m 0)):Seen β (FQ2 m n (0:Nat)) (mkS [some (rowO .look m.ps),some (rowO .look m.vs),some (amC m 0 1),some (.row .mine 1 0 n e)]) (FQ2 m (VB m 0).length (0:Nat)) (SPm m (VB m 0)):=by
 have hn:n=(VB m 0).length:=hR.1
 subst hn
 refine Seen.objs rfl fun q o2 h=> ?_
 match q,h with
 |0,h=>cases h;exact⟨_,rfl,rfl,fun _ _ _ h=>h⟩
 |1,h=>cases h;exact⟨_,rfl,rfl,fun _ _ _ h=>h⟩
 |2,h=>cases h;exact⟨_,rfl,rfl,fun _ _ _ h=>h⟩
 |3,h=>cases h;exact⟨_,rfl,rfl,fun _ _ _ h=>hR.obj _ _ _ h⟩
 |_+4,h=>cases h
theorem aff_:c5_ Tryz.prog 52 (okA1 (Sc Ms) fun m=>fitM m.x) (g9_ (Sc Ms) fun m=> .ret (ansW (putQ m.x) (putC m.x))):=by
 refine l0_ follows fun r hr hp=>⟨toldR6,100,20,fun _=>0,slQ,exQ r.x,toldR6_ok,fun β hβ=> ?_⟩
 obtain⟨m⟩:=r
 obtain⟨g1,g2,g3,g4,g5,g6⟩:=r1_ hr
 have hp:fitM m=true:=hp
 unfold fitM at hp
 rw[Bool.and_eq_true,List.all_eq_true]at hp
 show lawE Tryz.prog toldR6 100 20 β (fun _=>0) (cnOf 2 slQ) (exQ m) 52 [amV m 0 1] (mkS [some (rowO .look m.ps),some (rowO .look m.vs)]) (outC 2 fun r q=> ∃m2,a6_ q m2∧ansE (.ret (ansW (putQ m) (putC m))) r (mkS m2))
 refine(akD_ m β _).mpr ?_
 simp only[Nat.zero_add]
 refine nd_ (by simp) (nd_ (by simp) (nd_ ((x0_ m).trans (by rw[hr];rfl)) ?_))
 refine a0_ (fun hq=> ?_) (fun hq=> ?_)
 ·have hq:(!mayQ (Enc.dec (nthT (b1_ m))))=true:=hq
  rw[(dE_ m).1]at hq
  have hq:mayQ m=false:=by simpa using hq
  refine⟨_,a6_.refl _,[],?_,List.nodup_nil⟩
  have e1:putQ m=[]:=by unfold putQ;rw[hq];rfl
  have e2:putC m=1:=by unfold putC;rw[hq];rfl
  rw[e1,e2]
  exact rN_ rfl rfl
 ·have hq:(!mayQ (Enc.dec (nthT (b1_ m))))=false:=hq
  rw[(dE_ m).1]at hq
  have hq:mayQ m=true:=by simpa using hq
  have hm:=alW_ hq
  have hvk: ∀v∈m.vs,okPq v=true:=fun v hv=>by
   show(i0_ v&&fV v)=true
   rw[hm.vok v hv,hp.1 v hv];rfl
  have hpl:=M1_ hm.pok m.ps.length (Nat.le_refl _)
  rw[←U5_]at hpl
  have hps:=hm.ps
  --what is answered
  have fin:br (decide (Int.ofNat (pmV m).length>200)) (∃m2,a6_ [some (rowO .look m.ps),some (rowO .look m.vs)] m2∧ansE (.ret (ansW (putQ m) (putC m))) (.returned (.slice none 0 0)) (mkS m2)) (∃m2,a6_ [some (rowO .look m.ps),some (rowO .look m.vs),some (rowO .mine (pmV m))] m2∧ansE (.ret (ansW (putQ m) (putC m))) (.returned (.slice (some ⟨2,0,some 0⟩) (pmV m).length 0)) (mkS m2)):=by
   refine a0_ (fun h2=> ?_) (fun h2=> ?_)
   ·have e1:putQ m=[]:=by unfold putQ;rw[hq,h2];rfl
    have e2:putC m=1:=by unfold putC;rw[hq,h2];rfl
    rw[e1,e2]
    exact⟨_,a6_.refl _,[],rN_ rfl rfl,List.nodup_nil⟩
   ·have e1:putQ m=pmV m:=by unfold putQ;rw[hq,h2];rfl
    have e2:putC m=0:=by unfold putC;rw[hq,h2];rfl
    rw[e1,e2]
    exact⟨_,a6_.refl _,[2],h8_ (pmV m) rfl fun _=>rfl,by simp⟩
  have rest: ∀{A:Prop},A→(A∧need (Nat.ble ((pmP m).length+1) 1000000) (need (true&&Nat.ble (pmP m).length (pmP m).length) (LoopJ Tryz.prog β (exQ m) 2 (a5_ Tryz.prog 52 2) (FQ2 m ((pmP m).length+1) (0:Nat)) (mkS [some (rowO .look m.ps),some (rowO .look m.vs),some (amC m 0 1),some (.row .mine 1 0 ((pmP m).length+1) fun j k=>mrgT (Nat.blt j (pmP m).length) (encL (pmP m) j k) (selT 1 1 [Td.sc (.int .u8 (IntKind.wrap .u8 (Int.ofNat m.vs.length)))] (j-(pmP m).length) k))])∧br (decide (Int.ofNat (pmV m).length>200)) (∃m2,a6_ [some (rowO .look m.ps),some (rowO .look m.vs)] m2∧ansE (.ret (ansW (putQ m) (putC m))) (.returned (.slice none 0 0)) (mkS m2)) (∃m2,a6_ [some (rowO .look m.ps),some (rowO .look m.vs),some (rowO .mine (pmV m))] m2∧ansE (.ret (ansW (putQ m) (putC m))) (.returned (.slice (some ⟨2,0,some 0⟩) (pmV m).length 0)) (mkS m2))))):=fun{A} hA=>⟨hA,nd_ (Nat.ble_eq_true_of_le (by omega)) (nd_ (by simp) ⟨LoopJ.seen (afg_ (((RowU.enc (pmP m)).app (RowU.sel1 (IntKind.wrap .u8 (Int.ofNat m.vs.length)))).to (M:=VB m 0) rfl (by simp[VB]))) (acN_ hβ hm.pok hm.ps hm.vs hvk),fin⟩)⟩
  have hd:(Enc.dec (nthT [Td.sc (.int .i64 m.bd.k),Td.sc (.int .i64 m.bd.i),Td.sc (.float .f64 m.bd.f)]):Vl)=m.bd:=rfl
  rw[hd]
  refine a0_ (fun hz=> ?_) (fun hz=> ?_)
  ·have hb:bdL m.bd=[⟨0⟩]:=by unfold bdL;rw[zQ_k hz];rfl
   refine rest (LoopJ.seen (U3_ ?_) (J9_ hβ hm.pok hm.ps))
   refine((((((((RowU.zero 0).app (RowU.sel1 (IntKind.wrap .u8 m.k))).app (RowU.sel2 _ _)).app (RowU.sel2 _ _)).app (RowU.sel2 _ _)).app (RowU.sel2 _ _)).app (RowU.sel8 _ _ _ _ _ _ _ _)).app (RowU.sel1 0)|>.app (RowU.sel1 (IntKind.wrap .u8 (Int.ofNat m.ps.length)))).to (M:=hdM m) rfl ?_
   unfold hdM
   rw[hb,←hi2f hm.id0 hm.id1,←hi2f hm.n0 hm.n1,←hi2f hm.sq0 hm.sq1,←hi8f hm.ev0 hm.ev1]
   rfl
  ·have hmv:i0_ m.bd=true:=hm.bd.resolve_left (by rw[hz];simp)
   have hb:bdL m.bd=pvL m.bd:=by unfold bdL;rw[aiC_ hmv];rfl
   have hbp:okPq m.bd=true:=by
    show(i0_ m.bd&&fV m.bd)=true
    rw[hmv,hp.2];rfl
   have hbl:=(s3_ m.bd).1
   refine nd_ (afs_ hbp) (nd_ (by simp) (nd_ (Nat.ble_eq_true_of_le (by omega)) (nd_ (Nat.ble_eq_true_of_le (by omega)) (nd_ (by simp) ?_))))
   refine rest (LoopJ.seen (U3_ ?_) (J9_ hβ hm.pok hm.ps))
   refine((((((((RowU.zero 0).app (RowU.sel1 (IntKind.wrap .u8 m.k))).app (RowU.sel2 _ _)).app (RowU.sel2 _ _)).app (RowU.sel2 _ _)).app (RowU.sel2 _ _)).app (RowU.sel8 _ _ _ _ _ _ _ _)).app (RowU.enc (pvL m.bd))|>.app (RowU.sel1 (IntKind.wrap .u8 (Int.ofNat m.ps.length)))).to (M:=hdM m) rfl ?_
   unfold hdM
   rw[hb,←hi2f hm.id0 hm.id1,←hi2f hm.n0 hm.n1,←hi2f hm.sq0 hm.sq1,←hi8f hm.ev0 hm.ev1]
   rfl
def ajy_:Told:=toldR6.tree 52 (okA1 (Sc Ms) fun m=>fitM m.x) (g9_ (Sc Ms) fun m=> .ret (ansW (putQ m.x) (putC m.x)))
theorem aea_:a8_ Tryz.prog ajy_:=Told.tree_ok toldR6_ok aff_
def zMs:Ms:=⟨0,0,0,0,0,false,0,⟨0,0,0⟩,[],1,[],1⟩
end Go.Proofs.YtachglcffimmeaaGreat.Ev
end
section
namespace Go.Proofs.YtachglcffimmeaaGreat.Ev
open Go Go.Proofs Go.RowKit
end Go.Proofs.YtachglcffimmeaaGreat.Ev
end
section
namespace Go.Proofs.YtachglcffimmeaaGreat.Ev
open Go Go.Proofs Go.RowKit
structure PMt where
 r:Nat
 s:RT
 ps:List St
def i3_(m:Ms)(ps:List St):Ms:=⟨m.k,m.id,m.er,m.n,m.sq,m.lo,m.ev,m.bd,ps,1,[],1⟩
def k9_(m:Ms)(ps:List St)(vs:List Vl):Ms:=⟨m.k,m.id,m.er,m.n,m.sq,m.lo,m.ev,m.bd,ps,1,vs,1⟩
structure PMv where
 r:Nat
 s:RT
 vs:List Vl
def t0(L:List U8):RT:=⟨L.length,false⟩
def t1(L:List U8):RT:=(t0 L).nx 1
def t2(L:List U8):RT:=(t1 L).nx 2
def t3(L:List U8):RT:=(t2 L).nx 2
def t4(L:List U8):RT:=(t3 L).nx 2
def t5(L:List U8):RT:=(t4 L).nx 1
def t6'(L:List U8):RT:=(t5 L).nx 1
def t7(L:List U8):RT:=(t6' L).nx 8
def aad_(o:Option Ms):Ans:= .rets [ansO (o.getD zMs),.cell (.sc (.bool o.isSome))]
theorem alr_(m:Ms):(putQ m).all (okA U8)=true∧(putQ m).length≤200:=by
 unfold putQ
 cases mayQ m with
 |false=>exact⟨rfl,by show 0≤200;omega⟩
 |true=>
  cases hd:decide (Int.ofNat (pmV m).length>200)with
  |true=>exact⟨rfl,by show 0≤200;omega⟩
  |false=>
   have:=of_decide_eq_false hd
   simp only[Int.ofNat_eq_natCast]at this
   exact⟨F0_ m,by show(pmV m).length≤200;omega⟩
theorem tnl_(m:List (Option AObj))(o:Option Ms)(h:o=none): ∃m2,a6_ m m2∧ansE (aad_ o) (.returned (.tuple ⟨[.agg ⟨msCs zMs nilV nilV⟩,.bool false]⟩)) (mkS m2):=by
 subst h
 refine⟨m,a6_.refl _,⟨_,[],rfl,⟨[],[],rfl,⟨_,rfl,?_⟩,⟨[],[],rfl,⟨rfl,rfl,rfl⟩,rfl⟩⟩,List.nodup_nil⟩⟩
 refine rS_ rfl rfl (rS_ rfl rfl (rS_ rfl rfl (rS_ rfl rfl (rS_ rfl rfl (rS_ rfl rfl (rS_ rfl rfl (rS_ rfl rfl (rS_ rfl rfl (rS_ rfl rfl ?_)))))))))
 refine rO_ (l1:=[]) (l2:=[]) (rN_ rfl rfl) ?_
 exact rO_ (l1:=[]) (l2:=[]) (rN_ rfl rfl) i4_
theorem I1_(x:AObj)(a:Ms)(h1:a.cps=1)(h2:a.cvs=1)(o:Option Ms)(h:o=some a): ∃m2,a6_ [some x,some (rowO .mine a.ps),some (rowO .mine a.vs)] m2∧ansE (aad_ o) (.returned (.tuple ⟨[.agg ⟨msCs a (.slice (some ⟨1,0,some 0⟩) a.ps.length 1) (.slice (some ⟨2,0,some 0⟩) a.vs.length 1)⟩,.bool true]⟩)) (mkS m2):=by
 subst h
 obtain⟨k,id,er,n,sq,lo,ev,bd,ps,cps,vs,cvs⟩:=a
 have h1:cps=1:=h1
 have h2:cvs=1:=h2
 subst h1 h2
 refine⟨_,a6_.refl _,⟨_,[1,2],rfl,⟨[1,2],[],rfl,⟨_,rfl,?_⟩,⟨[],[],rfl,⟨rfl,rfl,rfl⟩,rfl⟩⟩,by simp⟩⟩
 refine rS_ rfl rfl (rS_ rfl rfl (rS_ rfl rfl (rS_ rfl rfl (rS_ rfl rfl (rS_ rfl rfl (rS_ rfl rfl (rS_ rfl rfl (rS_ rfl rfl (rS_ rfl rfl ?_)))))))))
 refine rO_ (l1:=[1]) (l2:=[2]) (h8_ ps rfl fun _=>rfl) ?_
 exact rO_ (l1:=[2]) (l2:=[]) (h8_ vs rfl fun _=>rfl) i4_
def ajx_:Told:=ajy_
theorem adZ_:a8_ Tryz.prog ajx_:=aea_
end Go.Proofs.YtachglcffimmeaaGreat.Ev
end
section
namespace Go.Proofs.YtachglcffimmeaaGreat.Ev
open Go Go.Proofs Go.RowKit
end Go.Proofs.YtachglcffimmeaaGreat.Ev
end
section
namespace Go.Proofs.YtachglcffimmeaaGreat.Ev
open Go Go.Proofs Go.RowKit
def ajw_:Told:=ajx_
theorem adY_:a8_ Tryz.prog ajw_:=adZ_
def y5_:Told:=ajw_.tree 7 (okA1 (Rw U8) fun r=>r.l.all (okA U8)) (g9_ (Rw U8) fun r=> .ret (ansO (n1_ r.l)))
theorem t4_:a8_ Tryz.prog y5_:=Told.tree_ok adY_ afK_
def viF(L:List U8)(n c:Nat)(q:Bool):List (Option AObj):=viR L (L.length-n) n c q
theorem anK_(L:List U8)(n c:Nat)(q:Bool)(β:Bs)(K:AE→List (Option AObj)→Prop):lawE Tryz.prog y5_ 100 20 β (fun _=>9) (cnOf 2 fun _=>[]) (fun _ _=>False) 31 [.pointer (some ⟨0,0,none⟩),.int .i64 1] (mkS (viF L n c q)) (outC 2 K)=
 (fun(z0:AObj) (z1:Nat) (z2:AE) (z3:Addr)=>(br (decide ((1:Int)>Int.ofNat n)) (K z2 [some (.cells [.slice (some z3) n c,.bool true] true 0),some z0]) (br q (K z2 [some (.cells [.slice (some z3) n c,.bool q] true 0),some z0]) (need (Nat.ble 1 n) (need (Nat.ble 1 n) (need (Nat.ble 0 z1&&Nat.blt z1 L.length) (K (.returned (.int .u64 (IntKind.wrap .u64 ((0:Int)+IntKind.wrap .u64 (U8.v (List.getD L z1 Enc.dflt)))))) [some (.cells [.slice (some (Addr.mk 1 0 (some (List.length L-n+1)))) (n-1) (bif Nat.beq n 0 then c else 0),.bool q] true 0),some z0]))))))) (.row .look 1 0 L.length (encL L)) (List.length L-n+0+0) (.returned (.int .u64 (0:Int))) (Addr.mk 1 0 (some (List.length L-n))):=by kernel_rfl
theorem anJ_(L:List U8)(n c:Nat)(q:Bool)(β:Bs)(K:AE→List (Option AObj)→Prop):lawE Tryz.prog y5_ 100 20 β (fun _=>9) (cnOf 2 fun _=>[]) (fun _ _=>False) 31 [.pointer (some ⟨0,0,none⟩),.int .i64 2] (mkS (viF L n c q)) (outC 2 K)=
 (fun(z1 z2 z5:Nat) (z3:AE) (z4:Addr)=>((fun(z0:AObj)=>(br (decide ((2:Int)>Int.ofNat n)) (K z3 [some (.cells [.slice (some z4) n c,.bool true] true 0),some z0]) (br q (K z3 [some (.cells [.slice (some z4) n c,.bool q] true 0),some z0]) (need (Nat.ble 2 n) (need (Nat.ble 2 n) (need (Nat.ble 0 z1&&Nat.blt z1 z5) (need (Nat.ble 0 z2&&Nat.blt z2 z5) (K (.returned (.int .u64 (IntKind.wrap .u64 (IntKind.wrap .u64 (IntKind.wrap .u64 ((0:Int)+IntKind.wrap .u64 (U8.v (List.getD L z1 Enc.dflt)))*(256:Int))+IntKind.wrap .u64 (U8.v (List.getD L z2 Enc.dflt)))))) [some (.cells [.slice (some (Addr.mk 1 0 (some (List.length L-n+2)))) (n-2) (bif Nat.beq n 0 then c else 0),.bool q] true 0),some z0])))))))) (.row .look 1 0 z5 (encL L)))) (List.length L-n+0+0) (List.length L-n+0+1) L.length (.returned (.int .u64 (0:Int))) (Addr.mk 1 0 (some (List.length L-n))):=by kernel_rfl
theorem anI_(L:List U8)(n c:Nat)(q:Bool)(β:Bs)(K:AE→List (Option AObj)→Prop):lawE Tryz.prog y5_ 100 20 β (fun _=>9) (cnOf 2 fun _=>[]) (fun _ _=>False) 31 [.pointer (some ⟨0,0,none⟩),.int .i64 8] (mkS (viF L n c q)) (outC 2 K)=
 (fun(z0 z2 z3 z4 z5 z6 z7 z8 z9:Nat) (z10:AE) (z11:Addr)=>((fun(z1:AObj)=>(br (decide ((8:Int)>Int.ofNat n)) (K z10 [some (.cells [.slice (some z11) n c,.bool true] true 0),some z1]) (br q (K z10 [some (.cells [.slice (some z11) n c,.bool q] true 0),some z1]) (need (Nat.ble 8 n) (need (Nat.ble 8 n) (need (Nat.ble 0 z2&&Nat.blt z2 z0) (need (Nat.ble 0 z3&&Nat.blt z3 z0) (need (Nat.ble 0 z4&&Nat.blt z4 z0) (need (Nat.ble 0 z5&&Nat.blt z5 z0) (need (Nat.ble 0 z6&&Nat.blt z6 z0) (need (Nat.ble 0 z7&&Nat.blt z7 z0) (need (Nat.ble 0 z8&&Nat.blt z8 z0) (need (Nat.ble 0 z9&&Nat.blt z9 z0) (K (.returned (.int .u64 (IntKind.wrap .u64 (IntKind.wrap .u64 (IntKind.wrap .u64 (IntKind.wrap .u64 (IntKind.wrap .u64 (IntKind.wrap .u64 (IntKind.wrap .u64 (IntKind.wrap .u64 (IntKind.wrap .u64 (IntKind.wrap .u64 (IntKind.wrap .u64 (IntKind.wrap .u64 (IntKind.wrap .u64 (IntKind.wrap .u64 (IntKind.wrap .u64 ((0:Int)+IntKind.wrap .u64 (U8.v (List.getD L z2 Enc.dflt)))*(256:Int))+IntKind.wrap .u64 (U8.v (List.getD L z3 Enc.dflt)))*(256:Int))+IntKind.wrap .u64 (U8.v (List.getD L z4 Enc.dflt)))*(256:Int))+IntKind.wrap .u64 (U8.v (List.getD L z5 Enc.dflt)))*(256:Int))+IntKind.wrap .u64 (U8.v (List.getD L z6 Enc.dflt)))*(256:Int))+IntKind.wrap .u64 (U8.v (List.getD L z7 Enc.dflt)))*(256:Int))+IntKind.wrap .u64 (U8.v (List.getD L z8 Enc.dflt)))*(256:Int))+IntKind.wrap .u64 (U8.v (List.getD L z9 Enc.dflt)))))) [some (.cells [.slice (some (Addr.mk 1 0 (some (List.length L-n+8)))) (n-8) (bif Nat.beq n 0 then c else 0),.bool q] true 0),some z1])))))))))))))) (.row .look 1 0 z0 (encL L)))) L.length (List.length L-n+0+0) (List.length L-n+0+1) (List.length L-n+0+2) (List.length L-n+0+3) (List.length L-n+0+4) (List.length L-n+0+5) (List.length L-n+0+6) (List.length L-n+0+7) (.returned (.int .u64 (0:Int))) (Addr.mk 1 0 (some (List.length L-n))):=by kernel_rfl
end Go.Proofs.YtachglcffimmeaaGreat.Ev
end
