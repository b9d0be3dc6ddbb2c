/-
  What has to hold: printed by the evaluator.
-/
import Derived.Test.YtachglcffimmeaaGreatR23
set_option linter.unusedVariables false
set_option maxRecDepth 1000000
set_option linter.unusedSimpArgs false
namespace Go.Proofs.YtachglcffimmeaaGreat.Ev
open Go Go.Proofs Go.RowKit
theorem aps_(k i:Int)(f:Nat)(K:AE→Prop):funK Tryz.prog J5_ 100 20 81 [.agg ⟨[.int .i64 k,.int .i64 i,.float .f64 f]⟩] st0 (fun r _=>K r)=
 (fun(z1:Prop)=>((fun(z0:Prop)=>((fun(z2:Prop)=>(br (k==(5:Int)) (K (.returned (.bool (i==(0:Int))))) (br (decide (k≥(1:Int))) (br (decide (k≤(5:Int))) (br (Int.ofNat (bitsN f)==(0:Int)) (K (.returned (.bool (wrF k i==i)))) z1) z2) z2))) (br (decide (k≥(6:Int))) (br (decide (k≤(8:Int))) z1 z0) z0))) (br (k==(9:Int)) z1 (br (k==(10:Int)) z1 (br (k==(11:Int)) z1 (br (k==(12:Int)) z1 z1)))))) (K (.returned (.bool false))):=by kernel_rfl
theorem adS_(n:Int)(K:AE→Prop):funK Tryz.prog J5_ 100 20 80 [.int .i64 n] st0 (fun r _=>K r)=
 (br (decide (n≥(0:Int))) (K (.returned (.bool (decide (n≤(65535:Int)))))) (K (.returned (.bool false)))):=by kernel_rfl
def mvB(k i:Int)(f:Nat):Bool:=cond (k==5) (i==0) (decide (k≥1)&&decide (k≤5)&&(Int.ofNat (bitsN f)==0)&&(wrF k i==i))
theorem alO_(k i:Int)(f:Nat):funK Tryz.prog J5_ 100 20 81 [.agg ⟨[.int .i64 k,.int .i64 i,.float .f64 f]⟩] st0 (fun r _=>r= .returned (.bool (mvB k i f))):=by
 rw[aps_ k i f fun r=>r= .returned (.bool (mvB k i f))]
 unfold mvB
 have hf: ∀b:Bool,b=false→AE.returned (.bool false)=AE.returned (.bool b):=fun b h=>by rw[h]
 refine a0_ (fun q=>by rw[q];rfl) (fun q=>a0_ (fun q1=>a0_ (fun q2=>a0_ (fun q3=>by rw[q,q1,q2,q3];rfl) (fun q3=>by rw[q,q1,q2,q3];rfl)) (fun q2=> ?_)) (fun q1=> ?_))
 ·rw[q,q1,q2]
  repeat' (with_reducible refine a0_ (fun _=> ?_) (fun _=> ?_))
  all_goals rfl
 ·rw[q,q1]
  repeat' (with_reducible refine a0_ (fun _=> ?_) (fun _=> ?_))
  all_goals rfl
def mvSpec:List Value→Option Value
 |[.agg ⟨[.int .i64 k,.int .i64 i,.float .f64 f]⟩]=>some (.bool (mvB k i f))
 |_=>none
def insB(n:Int):Bool:=decide (n≥0)&&decide (n≤65535)
def insSpec:List Value→Option Value
 |[.int .i64 n]=>some (.bool (insB n))
 |_=>none
theorem aiL_(n:Int):funK Tryz.prog J5_ 100 20 80 [.int .i64 n] st0 (fun r _=>r= .returned (.bool (insB n))):=by
 rw[adS_ n fun r=>r= .returned (.bool (insB n))]
 unfold insB
 exact a0_ (fun q=>by rw[q];rfl) (fun q=>by rw[q];rfl)
def toldM2:Told:=(J5_.also 81 mvSpec).also 80 insSpec
theorem toldM2_ok:a8_ Tryz.prog toldM2:=by
 refine Told.also_ok (Told.also_ok D3_ ?_) ?_
 ·intro args v hv
  unfold mvSpec at hv
  split at hv
  ·rename_i k i f
   cases hv
   exact⟨rfl,rfl,fun w args' ha=>y6_ (fuel:=100) (n:=20) follows D3_ (alO_ k i f) w args' ha⟩
  ·cases hv
 ·intro args v hv
  unfold insSpec at hv
  split at hv
  ·rename_i n
   cases hv
   exact⟨rfl,rfl,fun w args' ha=>y6_ (fuel:=100) (n:=20) follows D3_ (aiL_ n) w args' ha⟩
  ·cases hv
def slMm(b:Nat):List Nat:=cond (Nat.beq b 0) [1,3] [1,4]
def lvMm(b:Nat):AX→List Nat:=fun x=>match x with
 | .ret=>[2]
 |_=>slMm b
def viM(m:Ms):List (Option AObj):=[some (rowO .look m.ps),some (rowO .look m.vs)]
def FMm(i:Int):AFr:=mkF 135 [(1,.pointer (some ⟨2,0,none⟩)),(3,.int .i64 i)]
def FMm2(i:Int):AFr:=mkF 135 [(1,.pointer (some ⟨2,0,none⟩)),(4,.int .i64 i)]
def SMm(m:Ms):ASt:=mkS [some (rowO .look m.ps),some (rowO .look m.vs),some (amC m 0 1)]
def aof_:AFr:=mkF 135 [(2,.bool false)]
def pOkB(m:Ms):Bool:=m.ps.all fun s=> !(decide (Int.ofNat s.s.size<1))&& !(decide (Int.ofNat s.s.size>20))
def vOkB(m:Ms):Bool:=m.vs.all fun v=>mvB v.k v.i v.f
def exM0(m:Ms):Nat→Kt→Prop:=fun b K=>(pOkB m=false→K .ret aof_ (mkS (viM m)))∧(pOkB m=true→K (.exit b) (FMm (Int.ofNat m.ps.length)) (SMm m))
def exM2(m:Ms):Nat→Kt→Prop:=fun b K=>(vOkB m=false→K .ret aof_ (mkS (viM m)))∧(vOkB m=true→K (.exit b) (FMm2 (Int.ofNat m.vs.length)) (SMm m))
def exMm(m:Ms):Nat→Kt→Prop:=fun b=>cond (Nat.beq b 0) (exM0 m b) (exM2 m b)
theorem akE_(m:Ms)(i:Int)(β:Bs)(Nx:Kt):c0_ Tryz.prog toldM2 100 20 β (fun _=>0) (cnOf 2 slMm) (fun _ _=>False) 56 0 2 (lvMm 0) (FMm i) (SMm m) Nx=
 (fun(z2 z3:Nat) (z4:AObj)=>((fun(z5:AObj) (z6:St) (z7 z8:Bool)=>((fun(z0:ASt) (z1:Prop)=>(br (decide (i<Int.ofNat z2)) (need (decide ((0:Int)≤i)) (need z8 (need z7 (br (decide (Int.ofNat (ByteArray.size (St.s z6))<(1:Int))) z1 (need (decide ((0:Int)≤i)) (need z8 (need z7 (br (decide (Int.ofNat (ByteArray.size (St.s z6))>(20:Int))) z1 (Nx .normal (mkF 135 [(1,.pointer (some ⟨2,0,none⟩)),(3,.int .i64 (IntKind.wrap .i64 (i+(1:Int))))]) z0))))))))) (Nx (.exit 0) (mkF 135 [(1,.pointer (some ⟨2,0,none⟩)),(3,.int .i64 i)]) z0))) (mkS [some z5,some z4,some (.cells [.int .i64 (Ms.k m),.int .i64 (Ms.id m),.int .i64 (Ms.er m),.int .i64 (Ms.n m),.int .i64 (Ms.sq m),.bool (Ms.lo m),.int .i64 (Ms.ev m),.int .i64 (Vl.k (Ms.bd m)),.int .i64 (Vl.i (Ms.bd m)),.float .f64 (Vl.f (Ms.bd m)),.slice (some ⟨0,0,some 0⟩) z2 (Ms.cps m),.slice (some ⟨1,0,some 0⟩) (List.length (Ms.vs m)) (Ms.cvs m)] true 0)]) (Nx .ret (mkF 135 [(2,.bool false)]) (mkS [some z5,some z4])))) (.row .look 1 0 z2 (encL (Ms.ps m))) (List.getD (Ms.ps m) z3 Enc.dflt) (Nat.ble 0 z3&&Nat.blt z3 z2) (Nat.blt (Int.toNat i) z2))) (List.length (Ms.ps m)) (0+Int.toNat i) (.row .look 3 0 (List.length (Ms.vs m)) (encL (Ms.vs m))):=by kernel_rfl
theorem ahn_(m:Ms)(i:Int)(β:Bs)(Nx:Kt):c0_ Tryz.prog toldM2 100 20 β (fun _=>0) (cnOf 2 slMm) (fun _ _=>False) 56 2 2 (lvMm 2) (FMm2 i) (SMm m) Nx=
 (fun(z1 z5:Nat) (z3:AObj)=>((fun(z2:Vl) (z4:AObj)=>((fun(z0:ASt)=>(br (decide (i<Int.ofNat z1)) (need (decide ((0:Int)≤i)) (need (Nat.blt (Int.toNat i) z1) (need (Nat.ble 0 z5&&Nat.blt z5 z1) (br (!mvB (Vl.k z2) (Vl.i z2) (Vl.f z2)) (Nx .ret (mkF 135 [(2,.bool false)]) (mkS [some z3,some z4])) (Nx .normal (mkF 135 [(1,.pointer (some ⟨2,0,none⟩)),(4,.int .i64 (IntKind.wrap .i64 (i+(1:Int))))]) z0))))) (Nx (.exit 2) (mkF 135 [(1,.pointer (some ⟨2,0,none⟩)),(4,.int .i64 i)]) z0))) (mkS [some z3,some z4,some (.cells [.int .i64 (Ms.k m),.int .i64 (Ms.id m),.int .i64 (Ms.er m),.int .i64 (Ms.n m),.int .i64 (Ms.sq m),.bool (Ms.lo m),.int .i64 (Ms.ev m),.int .i64 (Vl.k (Ms.bd m)),.int .i64 (Vl.i (Ms.bd m)),.float .f64 (Vl.f (Ms.bd m)),.slice (some ⟨0,0,some 0⟩) (List.length (Ms.ps m)) (Ms.cps m),.slice (some ⟨1,0,some 0⟩) z1 (Ms.cvs m)] true 0)]))) (List.getD (Ms.vs m) z5 Enc.dflt) (.row .look 3 0 z1 (encL (Ms.vs m))))) (List.length (Ms.vs m)) (0+Int.toNat i) (.row .look 1 0 (List.length (Ms.ps m)) (encL (Ms.ps m))):=by kernel_rfl
theorem apu_(m:Ms)(β:Bs)(K:AE→List (Option AObj)→Prop):lawE Tryz.prog toldM2 100 20 β (fun _=>0) (cnOf 2 slMm) (exMm m) 56 [amV m 0 1] (mkS (viM m)) (outK K)=
 (fun(z5 z20 z22 z28 z29 z30 z40 z41 z42:Value) (z11 z13:AObj) (z12 z14 z34:Nat) (z33 z35:Addr) (z36 z37:Int)=>((fun(z1 z6 z7 z8 z9 z10 z16 z17:AObj) (z15 z19:Bool) (z21 z23 z24 z25 z26 z27:List Td) (z39:AE) (z43 z44 z45:Value)=>((fun(z2 z18:List Td) (z38:List (Option AObj))=>((fun(z3:Prop) (z32:Ms)=>((fun(z4:Prop)=>((fun(z0:Prop)=>((fun(z31:Prop)=>(br (decide (Ms.k m<(1:Int))) z3 (br (decide (Ms.k m>(7:Int))) z3 (br (!insB (Ms.id m)) z3 (br (!insB (Ms.n m)) z3 (br (!insB (Ms.sq m)) z3 (br (decide (Ms.ev m<(0:Int))) z3 (br (decide (Ms.ev m>(1125899906842624:Int))) z3 (br (decide (Ms.er m<(0:Int))) z3 (br (decide (Ms.er m>(13:Int))) z3 (br (decide (Int.ofNat z12>(5:Int))) z3 (br (decide (Int.ofNat z14>(5:Int))) z3 (LoopJ Tryz.prog β (exMm m) 0 (a5_ Tryz.prog 56 0) (mkF 135 [(1,.pointer (some ⟨2,0,none⟩)),(3,.int .i64 (0:Int))]) (mkS z38)∧(pOkB m=false→K z39 [some z16,some z17])∧(pOkB m=true→LoopJ Tryz.prog β (exMm m) 2 (a5_ Tryz.prog 56 2) (mkF 135 [(1,.pointer (some ⟨2,0,none⟩)),(4,.int .i64 (0:Int))]) (mkS z38)∧(vOkB m=false→K z39 [some z16,some z17])∧(vOkB m=true→br (Vl.k (Ms.bd m)==(0:Int)) (br (Vl.i (Ms.bd m) !=(0:Int)) z3 (br (Int.ofNat (bitsN z34) !=(0:Int)) z3 z31)) z31))))))))))))))) (br (!Vl.k (Ms.bd m)==(0:Int)) (br (!mvB z36 z37 z34) z3 z0) z0))) (br (Ms.k m==(1:Int)) (need z15 (need z15 (need z19 (need (okS2 Ms (fun x x_1=>true) [Ta.agg z25,Ta.agg z2]) (K (.returned (.bool (c2_ (Enc.dec (nthT z25)) z32))) [some z16,some z17,some z1,some z1,some z10,some z10,some z10,none]))))) (br (Ms.k m==(2:Int)) (need z15 (need z19 (need z15 (need z19 (need (okS2 Ms (fun x x_1=>true) [Ta.agg z24,Ta.agg z2]) (K (.returned (.bool (c2_ (Enc.dec (nthT z24)) z32))) [some z16,some z17,some z1,some z1,some z6,some z6,some z6,none])))))) (br (Ms.k m==(3:Int)) z4 (br (Ms.k m==(5:Int)) z4 (br (Ms.k m==(4:Int)) (need z15 (need z15 (need z19 (need (okS2 Ms (fun x x_1=>true) [Ta.agg z18,Ta.agg z2]) (K (.returned (.bool (c2_ (Enc.dec (nthT z18)) z32))) [some z16,some z17,some z1,some z1,some z8,some z8,some z8,none]))))) (br (Ms.k m==(6:Int)) (need z15 (need z19 (need z15 (need z19 (need (okS2 Ms (fun x x_1=>true) [Ta.agg z21,Ta.agg z2]) (K (.returned (.bool (c2_ (Enc.dec (nthT z21)) z32))) [some z16,some z17,some z1,some z1,some z7,some z7,some z7,none])))))) (br (Ms.k m==(7:Int)) (need z19 (need z15 (need z19 (need (okS2 Ms (fun x x_1=>true) [Ta.agg z23,Ta.agg z2]) (K (.returned (.bool (c2_ (Enc.dec (nthT z23)) z32))) [some z16,some z17,some z1,some z1,some z9,some z9,some z9,none]))))) (need z15 (need z19 (need (okS2 Ms (fun x x_1=>true) [Ta.agg z27,Ta.agg z2]) (K (.returned (.bool (c2_ (Enc.dec (nthT z27)) z32))) [some z16,some z17,some z1,some z1,some z11,some z11,some z11,none]))))))))))))) (need z15 (need z19 (need (okS2 Ms (fun x x_1=>true) [Ta.agg z26,Ta.agg z2]) (K (.returned (.bool (c2_ (Enc.dec (nthT z26)) z32))) [some z16,some z17,some z1,some z1,some z13,some z13,some z13,none])))))) (K z39 z38) (Enc.dec (nthT z2)))) [.sc z20,.sc z22,.sc z40,.sc z30,.sc z41,.sc (.bool (Ms.lo m)),.sc z42,.sc z44,.sc z45,.sc z43,.fr 1 z12 (Ms.cps m) fun i=>encL (Ms.ps m) (0+i),.fr 3 z14 (Ms.cvs m) fun i=>encL (Ms.vs m) (0+i)] [.sc z20,.sc z22,.sc z5,.sc z30,.sc z5,.sc z29,.sc z42,.sc z44,.sc z45,.sc z43,.fr 1 z12 (Ms.cps m) fun i=>encL (Ms.ps m) (0+i),.fr 0 0 1 noT] [some z16,some z17,some z1])) (.cells [.int .i64 (Ms.k m),.int .i64 (Ms.id m),.int .i64 (Ms.er m),.int .i64 (Ms.n m),.int .i64 (Ms.sq m),.bool (Ms.lo m),.int .i64 (Ms.ev m),.int .i64 z36,.int .i64 z37,.float .f64 z34,.slice (some z33) z12 (Ms.cps m),.slice (some z35) z14 (Ms.cvs m)] true 0) (.cells [.int .i64 (Ms.k
 m),.int .i64 (Ms.id m),.int .i64 (0:Int),.int .i64 (0:Int),.int .i64 (0:Int),.bool false,.int .i64 (0:Int),.int .i64 (0:Int),.int .i64 (0:Int),.float .f64 0,.slice (some z33) z12 (Ms.cps m),.slice (some z35) z14 (Ms.cvs m)] true 0) (.cells [.int .i64 (Ms.k m),.int .i64 (Ms.id m),.int .i64 (Ms.er m),.int .i64 (Ms.n m),.int .i64 (0:Int),.bool false,.int .i64 (0:Int),.int .i64 (0:Int),.int .i64 (0:Int),.float .f64 0,.slice (some z33) z12 (Ms.cps m),.slice (some z35) z14 (Ms.cvs m)] true 0) (.cells [.int .i64 (Ms.k m),.int .i64 (Ms.id m),.int .i64 (0:Int),.int .i64 (Ms.n m),.int .i64 (0:Int),.bool false,.int .i64 (Ms.ev m),.int .i64 z36,.int .i64 z37,.float .f64 z34,.slice (some z33) z12 (Ms.cps m),.slice none 0 0] true 0) (.cells [.int .i64 (Ms.k m),.int .i64 (0:Int),.int .i64 (0:Int),.int .i64 (Ms.n m),.int .i64 (Ms.sq m),.bool (Ms.lo m),.int .i64 (0:Int),.int .i64 (0:Int),.int .i64 (0:Int),.float .f64 0,.slice none 0 0,.slice (some z35) z14 (Ms.cvs m)] true 0) (.cells [.int .i64 (Ms.k m),.int .i64 (Ms.id m),.int .i64 (0:Int),.int .i64 (0:Int),.int .i64 (0:Int),.bool false,.int .i64 (0:Int),.int .i64 (0:Int),.int .i64 (0:Int),.float .f64 0,.slice (some z33) z12 (Ms.cps m),.slice none 0 0] true 0) (.row .look 1 0 z12 (encL (Ms.ps m))) (.row .look 3 0 z14 (encL (Ms.vs m))) (true&&Nat.ble (0+List.length (Ms.ps m)) z12) (true&&Nat.ble (0+List.length (Ms.vs m)) z14) [.sc z20,.sc z22,.sc z40,.sc z30,.sc z5,.sc z29,.sc z5,.sc z5,.sc z5,.sc z28,.fr 1 z12 (Ms.cps m) fun i=>encL (Ms.ps m) (0+i),.fr 3 z14 (Ms.cvs m) fun i=>encL (Ms.vs m) (0+i)] [.sc z20,.sc z5,.sc z5,.sc z30,.sc z41,.sc (.bool (Ms.lo m)),.sc z5,.sc z5,.sc z5,.sc z28,.fr 0 0 1 noT,.fr 3 z14 (Ms.cvs m) fun i=>encL (Ms.vs m) (0+i)] [.sc z20,.sc z22,.sc z5,.sc z5,.sc z5,.sc z29,.sc z5,.sc z5,.sc z5,.sc z28,.fr 1 z12 (Ms.cps m) fun i=>encL (Ms.ps m) (0+i),.fr 3 z14 (Ms.cvs m) fun i=>encL (Ms.vs m) (0+i)] [.sc z20,.sc z22,.sc z5,.sc z5,.sc z5,.sc z29,.sc z5,.sc z5,.sc z5,.sc z28,.fr 1 z12 (Ms.cps m) fun i=>encL (Ms.ps m) (0+i),.fr 0 0 1 noT] [.sc z20,.sc z22,.sc z5,.sc z30,.sc z5,.sc z29,.sc z5,.sc z5,.sc z5,.sc z28,.fr 0 0 1 noT,.fr 0 0 1 noT] [.sc z20,.sc z22,.sc z5,.sc z5,.sc z5,.sc z29,.sc z5,.sc z5,.sc z5,.sc z28,.fr 0 0 1 noT,.fr 0 0 1 noT] (.returned z29) (.float .f64 z34) (.int .i64 z36) (.int .i64 z37))) (.int .i64 (0:Int)) (.int .i64 (Ms.k m)) (.int .i64 (Ms.id m)) (.float .f64 0) (.bool false) (.int .i64 (Ms.n m)) (.int .i64 (Ms.er m)) (.int .i64 (Ms.sq m)) (.int .i64 (Ms.ev m)) (.cells [.int .i64 (Ms.k m),.int .i64 (Ms.id m),.int .i64 (0:Int),.int .i64 (0:Int),.int .i64 (0:Int),.bool false,.int .i64 (0:Int),.int .i64 (0:Int),.int .i64 (0:Int),.float .f64 0,.slice none 0 0,.slice none 0 0] true 0) (.cells [.int .i64 (Ms.k m),.int .i64 (Ms.id m),.int .i64 (0:Int),.int .i64 (Ms.n m),.int .i64 (0:Int),.bool false,.int .i64 (0:Int),.int .i64 (0:Int),.int .i64 (0:Int),.float .f64 0,.slice none 0 0,.slice none 0 0] true 0) (List.length (Ms.ps m)) (List.length (Ms.vs m)) (Vl.f (Ms.bd m)) ⟨0,0,some 0⟩ ⟨1,0,some 0⟩ (Vl.k (Ms.bd m)) (Vl.i (Ms.bd m)):=by kernel_rfl
def zV:Vl:=⟨0,0,0⟩
def e8_(m:Ms):Ms:=cond (m.k==1) ⟨m.k,m.id,0,0,0,false,0,zV,m.ps,m.cps,[],1⟩ (cond (m.k==2) ⟨m.k,m.id,0,0,0,false,0,zV,m.ps,m.cps,m.vs,m.cvs⟩ (cond (m.k==3) ⟨m.k,m.id,0,m.n,0,false,0,zV,[],1,[],1⟩
 (cond (m.k==5) ⟨m.k,m.id,0,m.n,0,false,0,zV,[],1,[],1⟩ (cond (m.k==4) ⟨m.k,m.id,0,m.n,0,false,m.ev,m.bd,m.ps,m.cps,[],1⟩ (cond (m.k==6) ⟨m.k,m.id,m.er,m.n,0,false,0,zV,m.ps,m.cps,m.vs,m.cvs⟩
 (cond (m.k==7) ⟨m.k,0,0,m.n,m.sq,m.lo,0,zV,[],1,m.vs,m.cvs⟩ ⟨m.k,m.id,0,0,0,false,0,zV,[],1,[],1⟩))))))
def bdOk(v:Vl):Bool:=cond (v.k==0) (!(v.i !=0)&& !(Int.ofNat (bitsN v.f) !=0)) (mvB v.k v.i v.f)
def mayM(m:Ms):Bool:=cond (decide (m.k<1)) false (cond (decide (m.k>7)) false (cond (!(insB m.id)) false (cond (!(insB m.n)) false (cond (!(insB m.sq)) false (cond (decide (m.ev<0)) false (cond (decide (m.ev>1125899906842624)) false (cond (decide (m.er<0)) false (cond (decide (m.er>13)) false
 (cond (decide (Int.ofNat m.ps.length>5)) false (cond (decide (Int.ofNat m.vs.length>5)) false (cond (pOkB m) (cond (vOkB m) (cond (bdOk m.bd) (c2_ (e8_ m) m) false) false) false)))))))))))
theorem dPV{k id er n sq:Int}{lo:Bool}{ev bk bi:Int}{bf:Nat}{ps:List St}{cps:Nat}{vs:List Vl}{cvs:Nat}:(Enc.dec (nthT [.sc (.int .i64 k),.sc (.int .i64 id),.sc (.int .i64 er),.sc (.int .i64 n),.sc (.int .i64 sq),.sc (.bool lo),.sc (.int .i64 ev),.sc (.int .i64 bk),.sc (.int .i64 bi),.sc (.float .f64 bf),.fr 1 ps.length cps fun i=>encL ps (0+i),.fr 3 vs.length cvs fun i=>encL vs (0+i)]):Ms)=⟨k,id,er,n,sq,lo,ev,⟨bk,bi,bf⟩,ps,cps,vs,cvs⟩:=by
 have e1:=encZ ps
 have e2:=encZ vs
 rw[e1,e2]
 show(⟨k,id,er,n,sq,lo,ev,⟨bk,bi,bf⟩,decL ps.length (encL ps),cps,decL vs.length (encL vs),cvs⟩:Ms)=_
 rw[b4_,b4_]
theorem oPV{k id er n sq:Int}{lo:Bool}{ev bk bi:Int}{bf:Nat}{ps:List St}{cps:Nat}{vs:List Vl}{cvs:Nat}(h1:ps.length≤1000000)(h2:cps≤1)(h3:vs.length≤1000000)(h4:cvs≤1):Enc.ok Ms (nthT [.sc (.int .i64 k),.sc (.int .i64 id),.sc (.int .i64 er),.sc (.int .i64 n),.sc (.int .i64 sq),.sc (.bool lo),.sc (.int .i64 ev),.sc (.int .i64 bk),.sc (.int .i64 bi),.sc (.float .f64 bf),.fr 1 ps.length cps fun i=>encL ps (0+i),.fr 3 vs.length cvs fun i=>encL vs (0+i)])=true:=by
 have e1:=encZ ps
 have f1:okT St (.fr 1 ps.length cps (encL ps))=true:=d0_ (α:=St) (l:=ps) (c:=cps) (by rw[List.all_eq_true];exact fun _ _=>rfl) h1 h2
 have e2:=encZ vs
 have f2:okT Vl (.fr 3 vs.length cvs (encL vs))=true:=d0_ (α:=Vl) (l:=vs) (c:=cvs) (allV _) h3 h4
 rw[e1,e2]
 show(true&&true&&true&&true&&true&&true&&true&&true&&true&&true&&okT St (.fr 1 ps.length cps (encL ps))&&okT Vl (.fr 3 vs.length cvs (encL vs)))=true
 rw[f1,f2]
 try rfl
theorem dPN{k id er n sq:Int}{lo:Bool}{ev bk bi:Int}{bf:Nat}{ps:List St}{cps:Nat}:(Enc.dec (nthT [.sc (.int .i64 k),.sc (.int .i64 id),.sc (.int .i64 er),.sc (.int .i64 n),.sc (.int .i64 sq),.sc (.bool lo),.sc (.int .i64 ev),.sc (.int .i64 bk),.sc (.int .i64 bi),.sc (.float .f64 bf),.fr 1 ps.length cps fun i=>encL ps (0+i),.fr 0 0 1 noT]):Ms)=⟨k,id,er,n,sq,lo,ev,⟨bk,bi,bf⟩,ps,cps,[],1⟩:=by
 have e1:=encZ ps
 rw[e1]
 show(⟨k,id,er,n,sq,lo,ev,⟨bk,bi,bf⟩,decL ps.length (encL ps),cps,decL 0 noT,1⟩:Ms)=_
 rw[b4_]
 try rfl
theorem oPN{k id er n sq:Int}{lo:Bool}{ev bk bi:Int}{bf:Nat}{ps:List St}{cps:Nat}(h1:ps.length≤1000000)(h2:cps≤1):Enc.ok Ms (nthT [.sc (.int .i64 k),.sc (.int .i64 id),.sc (.int .i64 er),.sc (.int .i64 n),.sc (.int .i64 sq),.sc (.bool lo),.sc (.int .i64 ev),.sc (.int .i64 bk),.sc (.int .i64 bi),.sc (.float .f64 bf),.fr 1 ps.length cps fun i=>encL ps (0+i),.fr 0 0 1 noT])=true:=by
 have e1:=encZ ps
 have f1:okT St (.fr 1 ps.length cps (encL ps))=true:=d0_ (α:=St) (l:=ps) (c:=cps) (by rw[List.all_eq_true];exact fun _ _=>rfl) h1 h2
 rw[e1]
 show(true&&true&&true&&true&&true&&true&&true&&true&&true&&true&&okT St (.fr 1 ps.length cps (encL ps))&&okT Vl (.fr 0 0 1 noT))=true
 rw[f1]
 try rfl
theorem dNV{k id er n sq:Int}{lo:Bool}{ev bk bi:Int}{bf:Nat}{vs:List Vl}{cvs:Nat}:(Enc.dec (nthT [.sc (.int .i64 k),.sc (.int .i64 id),.sc (.int .i64 er),.sc (.int .i64 n),.sc (.int .i64 sq),.sc (.bool lo),.sc (.int .i64 ev),.sc (.int .i64 bk),.sc (.int .i64 bi),.sc (.float .f64 bf),.fr 0 0 1 noT,.fr 3 vs.length cvs fun i=>encL vs (0+i)]):Ms)=⟨k,id,er,n,sq,lo,ev,⟨bk,bi,bf⟩,[],1,vs,cvs⟩:=by
 have e2:=encZ vs
 rw[e2]
 show(⟨k,id,er,n,sq,lo,ev,⟨bk,bi,bf⟩,decL 0 noT,1,decL vs.length (encL vs),cvs⟩:Ms)=_
 rw[b4_]
 try rfl
theorem oNV{k id er n sq:Int}{lo:Bool}{ev bk bi:Int}{bf:Nat}{vs:List Vl}{cvs:Nat}(h3:vs.length≤1000000)(h4:cvs≤1):Enc.ok Ms (nthT [.sc (.int .i64 k),.sc (.int .i64 id),.sc (.int .i64 er),.sc (.int .i64 n),.sc (.int .i64 sq),.sc (.bool lo),.sc (.int .i64 ev),.sc (.int .i64 bk),.sc (.int .i64 bi),.sc (.float .f64 bf),.fr 0 0 1 noT,.fr 3 vs.length cvs fun i=>encL vs (0+i)])=true:=by
 have e2:=encZ vs
 have f2:okT Vl (.fr 3 vs.length cvs (encL vs))=true:=d0_ (α:=Vl) (l:=vs) (c:=cvs) (allV _) h3 h4
 rw[e2]
 show(true&&true&&true&&true&&true&&true&&true&&true&&true&&true&&okT St (.fr 0 0 1 noT)&&okT Vl (.fr 3 vs.length cvs (encL vs)))=true
 rw[f2]
 try rfl
theorem dNN{k id er n sq:Int}{lo:Bool}{ev bk bi:Int}{bf:Nat}:(Enc.dec (nthT [.sc (.int .i64 k),.sc (.int .i64 id),.sc (.int .i64 er),.sc (.int .i64 n),.sc (.int .i64 sq),.sc (.bool lo),.sc (.int .i64 ev),.sc (.int .i64 bk),.sc (.int .i64 bi),.sc (.float .f64 bf),.fr 0 0 1 noT,.fr 0 0 1 noT]):Ms)=⟨k,id,er,n,sq,lo,ev,⟨bk,bi,bf⟩,[],1,[],1⟩:=by
 show(⟨k,id,er,n,sq,lo,ev,⟨bk,bi,bf⟩,decL 0 noT,1,decL 0 noT,1⟩:Ms)=_
 rfl
theorem oNN{k id er n sq:Int}{lo:Bool}{ev bk bi:Int}{bf:Nat}:Enc.ok Ms (nthT [.sc (.int .i64 k),.sc (.int .i64 id),.sc (.int .i64 er),.sc (.int .i64 n),.sc (.int .i64 sq),.sc (.bool lo),.sc (.int .i64 ev),.sc (.int .i64 bk),.sc (.int .i64 bi),.sc (.float .f64 bf),.fr 0 0 1 noT,.fr 0 0 1 noT])=true:=by
 show(true&&true&&true&&true&&true&&true&&true&&true&&true&&true&&okT St (.fr 0 0 1 noT)&&okT Vl (.fr 0 0 1 noT))=true
 rfl
theorem o5_{cs ds:List Td}(h1:Enc.ok Ms (nthT cs)=true)(h2:Enc.ok Ms (nthT ds)=true)(l1:cs.length=12)(l2:ds.length=12):okS2 Ms (fun _ _=>true) [.agg cs,.agg ds]=true:=by
 show(Nat.beq cs.length 12&&Nat.beq ds.length 12&&Enc.ok Ms (nthT cs)&&Enc.ok Ms (nthT ds)&&true)=true
 rw[l1,l2,h1,h2];rfl
theorem q1_{α:Type}{l:List α}{p:α→Bool}{d:α}{k:Nat}(hk:k<l.length)(h:p (l.getD k d)=false):l.all p=false:=by
 rw[Bool.eq_false_iff]
 intro h2
 rw[List.all_eq_true]at h2
 have e:l.getD k d=l[k]:=by simp[List.getD,hk]
 rw[e,h2 _ (List.getElem_mem hk)]at h
 cases h
theorem H6_{α:Type}{l:List α}{p:α→Bool}{d:α}(h: ∀j,j<l.length→p (l.getD j d)=true):l.all p=true:=by
 rw[List.all_eq_true]
 intro x hx
 obtain⟨i,hi,rfl⟩:=List.getElem_of_mem hx
 have e:l.getD i d=l[i]:=by simp[List.getD,hi]
 rw[←e]
 exact h i hi
def pOk1(s:St):Bool:= !(decide (Int.ofNat s.s.size<1))&& !(decide (Int.ofNat s.s.size>20))
def IM0(m:Ms)(k:Nat):Prop:=k≤m.ps.length∧ ∀j,j<k→pOk1 (m.ps.getD j Enc.dflt)=true
theorem aiv_{m:Ms}{β:Bs}(hβ:β.X.length=2)(hl:m.ps.length≤1000000):LoopJ Tryz.prog β (exMm m) 0 (a5_ Tryz.prog 56 0) (FMm (0:Nat)) (SMm m):=by
 refine b2_ (IM0 m) (fun k:Nat=>FMm (k:Nat)) (fun _=>SMm m) (fun k=>m.ps.length-k) (fun k hI K hK=> ?_) 0 ⟨Nat.zero_le _,fun j hj=>by omega⟩
 have hK:exM0 m 0 K:=hK
 obtain⟨hK1,hK2⟩:=hK
 obtain⟨hk,hI⟩:=hI
 show J _ β _ _ _ (Nn β (IM0 m) (fun k=>m.ps.length-k) (fun k:Nat=>FMm (k:Nat)) (fun _=>SMm m) k K)
 refine rJ_ (E:=2) (lvs:=slMm) (un:=fun _=>0) (fuel:=100) (n:=20) (ex:=fun _ _=>False) follows toldM2_ok hβ (lv:=lvMm 0) ?_
 rw[akE_]
 refine a0_ (fun hlt=> ?_) (fun hlt=> ?_)
 ·have hlt:k<m.ps.length:=by simpa using hlt
  have e0:Int.toNat (k:Int)=k:=Int.toNat_natCast k
  have hw:IntKind.wrap .i64 ((k:Int)+1)=((k+1:Nat):Int):=w64 (by omega) (by omega)
  rw[e0,Nat.zero_add,hw]
  have c1:decide ((0:Int)≤(k:Int))=true:=by simp
  have c2:Nat.blt k m.ps.length=true:=by simpa using hlt
  have c3:(Nat.ble 0 k&&Nat.blt k m.ps.length)=true:=by rw[c2];simp
  refine nd_ c1 (nd_ c2 (nd_ c3 (a0_ (fun q=> ?_) (fun q=>nd_ c1 (nd_ c2 (nd_ c3 (a0_ (fun q2=> ?_) (fun q2=> ?_))))))))
  ·exact Nn.ret (Seen.refl _ _ _) (hK1 (q1_ hlt (by rw[q];rfl)))
  ·exact Nn.ret (Seen.refl _ _ _) (hK1 (q1_ hlt (by rw[q,q2];rfl)))
  ·refine Nn.next (I:=IM0 m) (m:=fun k=>m.ps.length-k) (F:=fun k:Nat=>FMm (k:Nat)) (S:=fun _=>SMm m) (p:=k) (k+1) ⟨hlt,fun j hj=> ?_⟩ (by show m.ps.length-(k+1)<m.ps.length-k;omega) (Seen.refl _ _ _)
   by_cases hjk:j=k
   ·subst hjk;unfold pOk1;rw[q,q2];rfl
   ·exact hI j (by omega)
 ·have hge: ¬k<m.ps.length:=by simpa using hlt
  have hkn:k=m.ps.length:=by omega
  subst hkn
  exact Nn.exit (Seen.refl _ _ _) (hK2 (H6_ fun j hj=>hI j hj))
def IM2(m:Ms)(k:Nat):Prop:=k≤m.vs.length∧ ∀j,j<k→mvB (m.vs.getD j Enc.dflt).k (m.vs.getD j Enc.dflt).i (m.vs.getD j Enc.dflt).f=true
theorem aiu_{m:Ms}{β:Bs}(hβ:β.X.length=2)(hl:m.vs.length≤1000000):LoopJ Tryz.prog β (exMm m) 2 (a5_ Tryz.prog 56 2) (FMm2 (0:Nat)) (SMm m):=by
 refine b2_ (IM2 m) (fun k:Nat=>FMm2 (k:Nat)) (fun _=>SMm m) (fun k=>m.vs.length-k) (fun k hI K hK=> ?_) 0 ⟨Nat.zero_le _,fun j hj=>by omega⟩
 have hK:exM2 m 2 K:=hK
 obtain⟨hK1,hK2⟩:=hK
 obtain⟨hk,hI⟩:=hI
 show J _ β _ _ _ (Nn β (IM2 m) (fun k=>m.vs.length-k) (fun k:Nat=>FMm2 (k:Nat)) (fun _=>SMm m) k K)
 refine rJ_ (E:=2) (lvs:=slMm) (un:=fun _=>0) (fuel:=100) (n:=20) (ex:=fun _ _=>False) follows toldM2_ok hβ (lv:=lvMm 2) ?_
 rw[ahn_]
 refine a0_ (fun hlt=> ?_) (fun hlt=> ?_)
 ·have hlt:k<m.vs.length:=by simpa using hlt
  have e0:Int.toNat (k:Int)=k:=Int.toNat_natCast k
  have hw:IntKind.wrap .i64 ((k:Int)+1)=((k+1:Nat):Int):=w64 (by omega) (by omega)
  rw[e0,Nat.zero_add,hw]
  have c1:decide ((0:Int)≤(k:Int))=true:=by simp
  have c2:Nat.blt k m.vs.length=true:=by simpa using hlt
  have c3:(Nat.ble 0 k&&Nat.blt k m.vs.length)=true:=by rw[c2];simp
  refine nd_ c1 (nd_ c2 (nd_ c3 (a0_ (fun q=> ?_) (fun q=> ?_))))
  ·exact Nn.ret (Seen.refl _ _ _) (hK1 (q1_ (d:=Enc.dflt) hlt (by rw[Bool.not_eq_true']at q;exact q)))
  ·refine Nn.next (I:=IM2 m) (m:=fun k=>m.vs.length-k) (F:=fun k:Nat=>FMm2 (k:Nat)) (S:=fun _=>SMm m) (p:=k) (k+1) ⟨hlt,fun j hj=> ?_⟩ (by show m.vs.length-(k+1)<m.vs.length-k;omega) (Seen.refl _ _ _)
   by_cases hjk:j=k
   ·subst hjk;rw[Bool.not_eq_false']at q;exact q
   ·exact hI j (by omega)
 ·have hge: ¬k<m.vs.length:=by simpa using hlt
  have hkn:k=m.vs.length:=by omega
  subst hkn
  exact Nn.exit (Seen.refl _ _ _) (hK2 (H6_ (d:=Enc.dflt) fun j hj=>hI j hj))
theorem alR_:c5_ Tryz.prog 56 (okS1 Ms fun _=>true) (Q7_ Ms fun m=>bAns (mayM m)):=by
 refine abo_ follows fun m hm _=>⟨toldM2,100,20,fun _=>0,slMm,exMm m,toldM2_ok,fun β hβ=> ?_⟩
 obtain⟨a1,a2,a3,a4⟩:=oMa hm
 show lawE Tryz.prog toldM2 100 20 β (fun _=>0) (cnOf 2 slMm) (exMm m) 56 [amV m 0 1] (mkS (viM m)) (outK fun r q=> ∃m2,a6_ q m2∧ansE (bAns (mayM m)) r (mkS m2))
 refine(apu_ m β _).mpr ?_
 try dsimp only
 have c1:(true&&Nat.ble (0+m.ps.length) m.ps.length)=true:=by simp
 have c2:(true&&Nat.ble (0+m.vs.length) m.vs.length)=true:=by simp
 have tm:=oPV (k:=m.k) (id:=m.id) (er:=m.er) (n:=m.n) (sq:=m.sq) (lo:=m.lo) (ev:=m.ev) (bk:=m.bd.k) (bi:=m.bd.i) (bf:=m.bd.f) (ps:=m.ps) (cps:=m.cps) (vs:=m.vs) (cvs:=m.cvs) a1 a2 a3 a4
 refine a0_ (fun q=>bL_ (by unfold mayM;rw[q];rfl)) (fun q1=> ?_)
 refine a0_ (fun q=>bL_ (by unfold mayM;rw[q1,q];rfl)) (fun q2=> ?_)
 refine a0_ (fun q=>bL_ (by unfold mayM;rw[q1,q2,q];rfl)) (fun q3=> ?_)
 refine a0_ (fun q=>bL_ (by unfold mayM;rw[q1,q2,q3,q];rfl)) (fun q4=> ?_)
 refine a0_ (fun q=>bL_ (by unfold mayM;rw[q1,q2,q3,q4,q];rfl)) (fun q5=> ?_)
 refine a0_ (fun q=>bL_ (by unfold mayM;rw[q1,q2,q3,q4,q5,q];rfl)) (fun q6=> ?_)
 refine a0_ (fun q=>bL_ (by unfold mayM;rw[q1,q2,q3,q4,q5,q6,q];rfl)) (fun q7=> ?_)
 refine a0_ (fun q=>bL_ (by unfold mayM;rw[q1,q2,q3,q4,q5,q6,q7,q];rfl)) (fun q8=> ?_)
 refine a0_ (fun q=>bL_ (by unfold mayM;rw[q1,q2,q3,q4,q5,q6,q7,q8,q];rfl)) (fun q9=> ?_)
 refine a0_ (fun q=>bL_ (by unfold mayM;rw[q1,q2,q3,q4,q5,q6,q7,q8,q9,q];rfl)) (fun q10=> ?_)
 refine a0_ (fun q=>bL_ (by unfold mayM;rw[q1,q2,q3,q4,q5,q6,q7,q8,q9,q10,q];rfl)) (fun q11=> ?_)
 refine⟨aiv_ hβ a1,fun h=>bL_ (by unfold mayM;rw[q1,q2,q3,q4,q5,q6,q7,q8,q9,q10,q11,h];rfl),fun p1=>⟨aiu_ hβ a3,fun h=>bL_ (by unfold mayM;rw[q1,q2,q3,q4,q5,q6,q7,q8,q9,q10,q11,p1,h];rfl),fun p2=> ?_⟩⟩
 have hs:mayM m=cond (bdOk m.bd) (c2_ (e8_ m) m) false:=by unfold mayM;rw[q1,q2,q3,q4,q5,q6,q7,q8,q9,q10,q11,p1,p2];rfl
 have hbad:bdOk m.bd=false→false=mayM m:=fun h=>by rw[hs,h];rfl
 have hgood:bdOk m.bd=true→mayM m=c2_ (e8_ m) m:=fun h=>by rw[hs,h];rfl
 refine a0_ (fun b1=>a0_ (fun b2=>bL_ (hbad (by unfold bdOk;rw[b1,b2];rfl))) (fun b2=>a0_ (fun b3=>bL_ (hbad (by unfold bdOk;rw[b1,b2,b3];rfl))) (fun b3=>a0_ (fun b4=>by rw[b1]at b4;cases b4) (fun b4=> ?_)))) (fun b1=>a0_ (fun b4=>a0_ (fun b5=>bL_ (hbad (by unfold bdOk;rw[b1];rw[Bool.not_eq_true']at b5;exact b5))) (fun b5=> ?_)) (fun b4=>by rw[b1]at b4;cases b4))
 rotate_left
 have hg:bdOk m.bd=true:=by unfold bdOk;rw[b1];rw[Bool.not_eq_false']at b5;exact b5
 rotate_left
 have hg:bdOk m.bd=true:=by unfold bdOk;rw[b1,b2,b3];rfl
 all_goals
  have hx:=hgood hg
  refine a0_ (fun k1=> ?_) (fun k1=>a0_ (fun k2=> ?_) (fun k2=>a0_ (fun k3=> ?_) (fun k3=>a0_ (fun k5=> ?_) (fun k5=>a0_ (fun k4=> ?_) (fun k4=>a0_ (fun k6=> ?_) (fun k6=>a0_ (fun k7=> ?_) (fun k7=> ?_)))))))
  ·refine nd_ c1 (nd_ c1 (nd_ c2 (nd_ (o5_ (oPN a1 a2) tm rfl rfl) ?_)))
   simp only[dPN,dPV]
   exact bL_ (by rw[hx];unfold e8_;rw[k1];rfl)
  ·refine nd_ c1 (nd_ c2 (nd_ c1 (nd_ c2 (nd_ (o5_ (oPV a1 a2 a3 a4) tm rfl rfl) ?_))))
   simp only[dPV]
   exact bL_ (by rw[hx];unfold e8_;rw[k1,k2];rfl)
  ·refine nd_ c1 (nd_ c2 (nd_ (o5_ oNN tm rfl rfl) ?_))
   simp only[dNN,dPV]
   exact bL_ (by rw[hx];unfold e8_;rw[k1,k2,k3];rfl)
  ·refine nd_ c1 (nd_ c2 (nd_ (o5_ oNN tm rfl rfl) ?_))
   simp only[dNN,dPV]
   exact bL_ (by rw[hx];unfold e8_;rw[k1,k2,k3,k5];rfl)
  ·refine nd_ c1 (nd_ c1 (nd_ c2 (nd_ (o5_ (oPN a1 a2) tm rfl rfl) ?_)))
   simp only[dPN,dPV]
   exact bL_ (by rw[hx];unfold e8_;rw[k1,k2,k3,k5,k4];rfl)
  ·refine nd_ c1 (nd_ c2 (nd_ c1 (nd_ c2 (nd_ (o5_ (oPV a1 a2 a3 a4) tm rfl rfl) ?_))))
   simp only[dPV]
   exact bL_ (by rw[hx];unfold e8_;rw[k1,k2,k3,k5,k4,k6];rfl)
  ·refine nd_ c2 (nd_ c1 (nd_ c2 (nd_ (o5_ (oNV a3 a4) tm rfl rfl) ?_)))
   simp only[dNV,dPV]
   exact bL_ (by rw[hx];unfold e8_;rw[k1,k2,k3,k5,k4,k6,k7];rfl)
  ·refine nd_ c1 (nd_ c2 (nd_ (o5_ oNN tm rfl rfl) ?_))
   simp only[dNN,dPV]
   exact bL_ (by rw[hx];unfold e8_;rw[k1,k2,k3,k5,k4,k6,k7];rfl)
def toldM3:Told:=toldM2.tree 56 (okS1 Ms fun _=>true) (Q7_ Ms fun m=>bAns (mayM m))
theorem toldM3_ok:a8_ Tryz.prog toldM3:=Told.tree_ok toldM2_ok alR_
theorem apn_(k i:Int)(f:Nat)(β:Bs)(K:AE→List (Option AObj)→Prop):lawE Tryz.prog toldM3 100 20 β (fun _=>8) (cnOf 0 fun _=>[]) (fun _ _=>False) 58 [.agg ⟨[.int .i64 k,.int .i64 i,.float .f64 f]⟩] (mkS []) (outK K)=
 (fun(z3 z4:AObj) (z10 z12 z23:List Td) (z22:Option Addr) (z28 z34:Int)=>((fun(z6 z16:List Td) (z9 z15:Int)=>((fun(z5 z26:List Td) (z29 z30:Int)=>((fun(z1 z2:Int) (z7 z19:List Td)=>((fun(z13 z25:List Td) (z31 z32:Int)=>((fun(z8 z11:Int) (z18 z21:List Td)=>((fun(z17 z24 z27:List Td) (z33:Int)=>((fun(z14 z20:List Td)=>((fun(z0:Prop)=>(br (k==(5:Int)) (K (.returned (.slice (some ⟨5,0,some 0⟩) 9 1)) [some z3,none,some z3,some (.row .mine 1 0 8 (putT 0 0 z17 (putT 1 0 z24 (putT 2 0 z18 (putT 3 0 z25 (putT 4 0 z19 (putT 5 0 z26 (putT 6 0 z16 (putT 7 0 z23 fun x=>nthT z10))))))))),none,some (.row .mine 1 0 9 fun j k_1=>mrgT (Nat.blt j 1) (selT 1 1 z12 (0+j) k_1) (putT 0 0 z17 (putT 1 0 z24 (putT 2 0 z18 (putT 3 0 z25 (putT 4 0 z19 (putT 5 0 z26 (putT 6 0 z16 (putT 7 0 z23 fun x=>nthT z10))))))) (0+(j-1)) k_1))]) (need (decide ((0:Int)≤k)) (br (Nat.beq (Int.toNat k) 0) (K (.returned (.slice z22 1 1)) [some z3,none,some z3,some z4,some (.row .mine 1 0 0 fun x=>nthT z10),none,some (.row .mine 1 0 1 fun j k_1=>mrgT (Nat.blt j 1) (selT 1 1 z12 (0+j) k_1) (nthT z10 k_1))]) (br (Nat.beq (Int.toNat k) 1) (K (.returned (.slice z22 2 1)) [some z3,none,some z3,some z4,some (.row .mine 1 0 1 (putT 0 0 z6 fun x=>nthT z10)),none,some (.row .mine 1 0 2 fun j k_1=>mrgT (Nat.blt j 1) (selT 1 1 z12 (0+j) k_1) (putT 0 0 z6 (fun x=>nthT z10) (0+(j-1)) k_1))]) (br (Nat.beq (Int.toNat k) 2) (K (.returned (.slice z22 3 1)) [some z3,none,some z3,some z4,some (.row .mine 1 0 2 (putT 0 0 z5 (putT 1 0 z6 fun x=>nthT z10))),none,some (.row .mine 1 0 3 fun j k_1=>mrgT (Nat.blt j 1) (selT 1 1 z12 (0+j) k_1) (putT 0 0 z5 (putT 1 0 z6 fun x=>nthT z10) (0+(j-1)) k_1))]) (br (Nat.beq (Int.toNat k) 3) (K (.returned (.slice z22 5 1)) [some z3,none,some z3,some z4,some (.row .mine 1 0 4 (putT 0 0 z13 (putT 1 0 z7 (putT 2 0 z5 (putT 3 0 z6 fun x=>nthT z10))))),none,some (.row .mine 1 0 5 fun j k_1=>mrgT (Nat.blt j 1) (selT 1 1 z12 (0+j) k_1) (putT 0 0 z13 (putT 1 0 z7 (putT 2 0 z5 (putT 3 0 z6 fun x=>nthT z10))) (0+(j-1)) k_1))]) (br (Nat.beq (Int.toNat k) 4) z0 (need (Nat.beq (Int.toNat k) 5) z0))))))))) (K (.returned (.slice z22 9 1)) [some z3,none,some z3,some z4,some (.row .mine 1 0 8 (putT 0 0 z14 (putT 1 0 z20 (putT 2 0 z27 (putT 3 0 z21 (putT 4 0 z13 (putT 5 0 z7 (putT 6 0 z5 (putT 7 0 z6 fun x=>nthT z10))))))))),none,some (.row .mine 1 0 9 fun j k_1=>mrgT (Nat.blt j 1) (selT 1 1 z12 (0+j) k_1) (putT 0 0 z14 (putT 1 0 z20 (putT 2 0 z27 (putT 3 0 z21 (putT 4 0 z13 (putT 5 0 z7 (putT 6 0 z5 (putT 7 0 z6 fun x=>nthT z10))))))) (0+(j-1)) k_1))]))) [.sc (.int .u8 (IntKind.wrap .u8 (Int.tmod (IntKind.wrap .u64 (Int.tdiv z33 (256:Int))) (256:Int))))] [.sc (.int .u8 (IntKind.wrap .u8 (Int.tmod z33 (256:Int))))])) [.sc (.int .u8 (IntKind.wrap .u8 (Int.tmod (IntKind.wrap .u64 (Int.tdiv z11 (256:Int))) (256:Int))))] [.sc (.int .u8 (IntKind.wrap .u8 (Int.tmod z11 (256:Int))))] [.sc (.int .u8 (IntKind.wrap .u8 (Int.tmod z8 (256:Int))))] (IntKind.wrap .u64 (Int.tdiv z8 (256:Int))))) (IntKind.wrap .u64 (Int.tdiv z31 (256:Int))) (IntKind.wrap .u64 (Int.tdiv z32 (256:Int))) [.sc (.int .u8 (IntKind.wrap .u8 (Int.tmod z32 (256:Int))))] [.sc (.int .u8 (IntKind.wrap .u8 (Int.tmod z31 (256:Int))))])) [.sc (.int .u8 (IntKind.wrap .u8 (Int.tmod z1 (256:Int))))] [.sc (.int .u8 (IntKind.wrap .u8 (Int.tmod z2 (256:Int))))] (IntKind.wrap .u64 (Int.tdiv z1 (256:Int))) (IntKind.wrap .u64 (Int.tdiv z2 (256:Int))))) (IntKind.wrap .u64 (Int.tdiv z29 (256:Int))) (IntKind.wrap .u64 (Int.tdiv z30 (256:Int))) [.sc (.int .u8 (IntKind.wrap .u8 (Int.tmod z29 (256:Int))))] [.sc (.int .u8 (IntKind.wrap .u8 (Int.tmod z30 (256:Int))))])) [.sc (.int .u8 (IntKind.wrap .u8 (Int.tmod z15 (256:Int))))] [.sc (.int .u8 (IntKind.wrap .u8 (Int.tmod z9 (256:Int))))] (IntKind.wrap .u64 (Int.tdiv z15 (256
 :Int))) (IntKind.wrap .u64 (Int.tdiv z9 (256:Int))))) [.sc (.int .u8 (IntKind.wrap .u8 (Int.tmod z34 (256:Int))))] [.sc (.int .u8 (IntKind.wrap .u8 (Int.tmod z28 (256:Int))))] (IntKind.wrap .u64 (Int.tdiv z28 (256:Int))) (IntKind.wrap .u64 (Int.tdiv z34 (256:Int))))) (.cells [.int .i64 k,.int .i64 i,.float .f64 f] true 0) (.cells [.int .i64 (0:Int),.int .i64 (1:Int),.int .i64 (2:Int),.int .i64 (4:Int),.int .i64 (8:Int),.int .i64 (8:Int)] true 1) [.sc (.int .u8 (0:Int))] [.sc (.int .u8 (IntKind.wrap .u8 k))] [.sc (.int .u8 (IntKind.wrap .u8 (Int.tmod (Int.ofNat (bitsN f)) (256:Int))))] (some ⟨6,0,some 0⟩) (IntKind.wrap .u64 (Int.tdiv (Int.ofNat (bitsN f)) (256:Int))) (IntKind.wrap .u64 i):=by kernel_rfl
def dU(u:Int):Int:=IntKind.wrap .u64 (Int.tdiv u 256)
def bU(u:Int):U8:=⟨IntKind.wrap .u8 (Int.tmod u 256)⟩
def hi1(u:Int):List U8:=[bU (u)]
def hi2(u:Int):List U8:=[bU (dU u),bU (u)]
def hi4(u:Int):List U8:=[bU (dU (dU (dU u))),bU (dU (dU u)),bU (dU u),bU (u)]
def hi8(u:Int):List U8:=[bU (dU (dU (dU (dU (dU (dU (dU u))))))),bU (dU (dU (dU (dU (dU (dU u)))))),bU (dU (dU (dU (dU (dU u))))),bU (dU (dU (dU (dU u)))),bU (dU (dU (dU u))),bU (dU (dU u)),bU (dU u),bU (u)]
theorem wr8(x:Int):0≤IntKind.wrap .u8 x∧IntKind.wrap .u8 x<256:=by
 unfold IntKind.wrap
 simp[IntKind.signed,IntKind.bits]
 omega
theorem V9_(x:Int):okA U8 ⟨IntKind.wrap .u8 x⟩=true:=by
 have:=wr8 x
 show(decide (0≤IntKind.wrap .u8 x)&&decide (IntKind.wrap .u8 x<256))=true
 simpa using this
theorem RowU.sel1(v:Int):RowU (fun i k=>selT 1 1 [.sc (.int .u8 v)] i k) 1 [⟨v⟩]:=⟨rfl,fun i hi=>match i,hi with
 |0,_=>rfl,fun i=>⟨v,rfl⟩⟩
theorem aol_(u:Int):RowU (putT 0 0 [.sc (.int .u8 (bU (u)).v)] (fun _ k=>nthT [.sc (.int .u8 0)] k)) 1 (hi1 u):=(((RowU.zero 1).put (v:=(bU (u)).v) (i0:=0) (by omega))).to (m:=1) (M:=hi1 u) rfl rfl
theorem t9_(u:Int):RowU (putT 0 0 [.sc (.int .u8 (bU (dU u)).v)] (putT 1 0 [.sc (.int .u8 (bU (u)).v)] (fun _ k=>nthT [.sc (.int .u8 0)] k))) 2 (hi2 u):=(((((RowU.zero 2).put (v:=(bU (u)).v) (i0:=1) (by omega))).put (v:=(bU (dU u)).v) (i0:=0) (by omega))).to (m:=2) (M:=hi2 u) rfl rfl
theorem aok_(u:Int):RowU (putT 0 0 [.sc (.int .u8 (bU (dU (dU (dU u)))).v)] (putT 1 0 [.sc (.int .u8 (bU (dU (dU u))).v)] (putT 2 0 [.sc (.int .u8 (bU (dU u)).v)] (putT 3 0 [.sc (.int .u8 (bU (u)).v)] (fun _ k=>nthT [.sc (.int .u8 0)] k))))) 4 (hi4 u):=(((((((((RowU.zero 4).put (v:=(bU (u)).v) (i0:=3) (by omega))).put (v:=(bU (dU u)).v) (i0:=2) (by omega))).put (v:=(bU (dU (dU u))).v) (i0:=1) (by omega))).put (v:=(bU (dU (dU (dU u)))).v) (i0:=0) (by omega))).to (m:=4) (M:=hi4 u) rfl rfl
theorem T7_(u:Int):RowU (putT 0 0 [.sc (.int .u8 (bU (dU (dU (dU (dU (dU (dU (dU u)))))))).v)] (putT 1 0 [.sc (.int .u8 (bU (dU (dU (dU (dU (dU (dU u))))))).v)] (putT 2 0 [.sc (.int .u8 (bU (dU (dU (dU (dU (dU u)))))).v)] (putT 3 0 [.sc (.int .u8 (bU (dU (dU (dU (dU u))))).v)] (putT 4 0 [.sc (.int .u8 (bU (dU (dU (dU u)))).v)] (putT 5 0 [.sc (.int .u8 (bU (dU (dU u))).v)] (putT 6 0 [.sc (.int .u8 (bU (dU u)).v)] (putT 7 0 [.sc (.int .u8 (bU (u)).v)] (fun _ k=>nthT [.sc (.int .u8 0)] k))))))))) 8 (hi8 u):=(((((((((((((((((RowU.zero 8).put (v:=(bU (u)).v) (i0:=7) (by omega))).put (v:=(bU (dU u)).v) (i0:=6) (by omega))).put (v:=(bU (dU (dU u))).v) (i0:=5) (by omega))).put (v:=(bU (dU (dU (dU u)))).v) (i0:=4) (by omega))).put (v:=(bU (dU (dU (dU (dU u))))).v) (i0:=3) (by omega))).put (v:=(bU (dU (dU (dU (dU (dU u)))))).v) (i0:=2) (by omega))).put (v:=(bU (dU (dU (dU (dU (dU (dU u))))))).v) (i0:=1) (by omega))).put (v:=(bU (dU (dU (dU (dU (dU (dU (dU u)))))))).v) (i0:=0) (by omega))).to (m:=8) (M:=hi8 u) rfl rfl
def pvL(v:Vl):List U8:=⟨IntKind.wrap .u8 v.k⟩::cond (v.k==5) (hi8 (Int.ofNat (bitsN v.f))) (cond (v.k==1) (hi1 (IntKind.wrap .u64 v.i)) (cond (v.k==2) (hi2 (IntKind.wrap .u64 v.i)) (cond (v.k==3) (hi4 (IntKind.wrap .u64 v.i)) (hi8 (IntKind.wrap .u64 v.i)))))
def pvP(v:Vl):Bool:=decide (1≤v.k)&&decide (v.k≤5)
theorem u2_{L:List U8}{m:List (Option AObj)}{k n c0:Nat}{e:Nat→Nat→Td}(h0:0<n)(hR:RowU e n L)(hk:m[k]? =some (some (.row .mine 1 0 n e))):
  ∃m2,a6_ m m2∧ansE (.ret (.cell (ownL L 0))) (.returned (.slice (some ⟨k,0,some 0⟩) n c0)) (mkS m2):=by
 have hkl:=(List.getElem?_eq_some_iff.1 hk).1
 exact⟨_,hR.leaf hk,[k],U7_ hkl hR.len (fun h=>by omega),by simp⟩
theorem alq_:c5_ Tryz.prog 58 (okS1 Vl pvP) (Q7_ Vl fun v=> .ret (.cell (ownL (pvL v) 0))):=by
 refine abo_ follows fun v _ hp=>⟨toldM3,100,20,fun _=>8,fun _=>[],fun _ _=>False,toldM3_ok,fun β hβ=> ?_⟩
 obtain⟨k,i,f⟩:=v
 show lawE Tryz.prog toldM3 100 20 β (fun _=>8) (cnOf 0 fun _=>[]) (fun _ _=>False) 58 [.agg ⟨[.int .i64 k,.int .i64 i,.float .f64 f]⟩] (mkS []) (outK fun r q=> ∃m2,a6_ q m2∧ansE (.ret (.cell (ownL (pvL ⟨k,i,f⟩) 0))) r (mkS m2))
 refine(apn_ k i f β _).mpr ?_
 try dsimp only
 have hp:(decide (1≤k)&&decide (k≤5))=true:=hp
 simp only[Bool.and_eq_true,decide_eq_true_eq]at hp
 obtain⟨p1,p2⟩:=hp
 simp only[Nat.zero_add]
 refine a0_ (fun h5=> ?_) (fun h5=>nd_ (by simpa using(show(0:Int)≤k by omega)) ?_)
 ·refine u2_ (by omega) (((RowU.sel1 (IntKind.wrap .u8 k)).app (T7_ (Int.ofNat (bitsN f)))).to rfl ?_) rfl
  show _=_::cond (k==5) _ _
  rw[h5];rfl
 ·have hk5:k≠5:=by simpa using h5
  refine a0_ (fun h=> ?_) (fun h0=>a0_ (fun h=> ?_) (fun h1=>a0_ (fun h=> ?_) (fun h2=>a0_ (fun h=> ?_) (fun h3=>a0_ (fun h=> ?_) (fun h4=> ?_)))))
  ·have:=Nat.eq_of_beq_eq_true h;omega
  ·have hk:k=1:=by have:=Nat.eq_of_beq_eq_true h;omega
   subst hk
   exact u2_ (by omega) (((RowU.sel1 (IntKind.wrap .u8 1)).app (aol_ (IntKind.wrap .u64 i))).to rfl rfl) rfl
  ·have hk:k=2:=by have:=Nat.eq_of_beq_eq_true h;omega
   subst hk
   exact u2_ (by omega) (((RowU.sel1 (IntKind.wrap .u8 2)).app (t9_ (IntKind.wrap .u64 i))).to rfl rfl) rfl
  ·have hk:k=3:=by have:=Nat.eq_of_beq_eq_true h;omega
   subst hk
   exact u2_ (by omega) (((RowU.sel1 (IntKind.wrap .u8 3)).app (aok_ (IntKind.wrap .u64 i))).to rfl rfl) rfl
  ·have hk:k=4:=by have:=Nat.eq_of_beq_eq_true h;omega
   subst hk
   exact u2_ (by omega) (((RowU.sel1 (IntKind.wrap .u8 4)).app (T7_ (IntKind.wrap .u64 i))).to rfl rfl) rfl
  ·have n0:=Nat.ne_of_beq_eq_false h0
   have n1:=Nat.ne_of_beq_eq_false h1
   have n2:=Nat.ne_of_beq_eq_false h2
   have n3:=Nat.ne_of_beq_eq_false h3
   have n4:=Nat.ne_of_beq_eq_false h4
   omega
def toldM4:Told:=toldM3.tree 58 (okS1 Vl pvP) (Q7_ Vl fun v=> .ret (.cell (ownL (pvL v) 0)))
theorem toldM4_ok:a8_ Tryz.prog toldM4:=Told.tree_ok toldM3_ok alq_
end Go.Proofs.YtachglcffimmeaaGreat.Ev
