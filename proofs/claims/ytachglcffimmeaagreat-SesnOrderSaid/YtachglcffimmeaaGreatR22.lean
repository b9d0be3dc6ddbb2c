/-
  Reals, whole numbers, values out of numbers: told.
-/
import Derived.Test.YtachglcffimmeaaGreatR21
set_option linter.unusedVariables false
set_option linter.unusedSimpArgs false
set_option maxRecDepth 1000000
namespace Go.Proofs.YtachglcffimmeaaGreat.Ev
open Go Go.Proofs Go.RowKit
theorem aah_{i:Nat}{K:Nat→Prop}: ∀{r j:Nat},j≤i→i<j+r→K i→selN r j i K
 |0,j,h1,h2,_=>by omega
 |r+1,j,h1,h2,h=>a0_ (fun hb=>by rw[←Nat.eq_of_beq_eq_true hb];exact h) fun hb=>aah_ (Nat.lt_of_le_of_ne h1 fun e=>by rw[e,Nat.beq_refl]at hb;cases hb) (by omega) h
def U0_:List Nat:=[0,9223372036854775808,4607182418800017408,13830554455654793216,4602678819172646912,4612811918334230528,13838998704956112896,9094988921128908188,2024,9218868437227405312,18442240474082181120,9221120237041090560,4674736413210574848,4891288408196988160,4636737291354636288]
def U1_(l:List U8)(n:Int):Nat×Int:=(U0_.getD (numF l n 15).1.toNat 0,(numF l n 15).2)
def r7_:List Int:=[0,1,2,3,-1,7,32767,-32768,2147483647,-2147483648,100,9223372036854775807,-9223372036854775808]
def C5_(l:List U8)(n k:Int):Int×Int:=(wrF k (r7_.getD (numF l n 13).1.toNat 0),(numF l n 13).2)
theorem PkOk.b{l:List U8}{n:Int}(hp:PkOk l n){c:Nat}(hc:c≤1):rowB U8 l.length c (some (.row .look 1 0 l.length (encL l)))=true:=N4_ .look rfl rfl hp.all hp.len hc
theorem PkOk.d{l:List U8}{n:Int}(hp:PkOk l n):decide (0≤n)=true:=by simpa using hp.nn
def deR:PkD:=fun xs=>match xs with
 |[]=>some fun l n=>(true,.returned (.float .f64 (U1_ l n).1),(U1_ l n).2)
 |_=>none
theorem ahW_{l:List U8}{n:Int}{β:Bs}{K:AE→List (Option AObj)→Prop}(hp:PkOk l n){c:Nat}(hc:c≤1)(hK: ∀q,q[0]? =some (some (pkO l.length c (U1_ l n).2))→K (.returned (.float .f64 (U1_ l n).1)) q):
  lawE Tryz.prog toldP2 100 20 β (fun _=>0) (cnOf 2 fun _=>[]) (fun _ _=>False) 44 [.pointer (some ⟨0,0,none⟩)] (mkS (viP l c n)) (outK K):=by
 refine(akz_ l c n β K).mpr ?_
 try dsimp only
 obtain⟨k1,k2,k3⟩:=nF_ (m:=15) hp (by omega)
 rw[c7_,hp.b hc,hp.all,hp.d]
 refine nd_ rfl (nd_ (by simpa using k1) ?_)
 show selN 15 0 _ (fun i=>K (.returned (.float .f64 (U0_.getD i 0))) _)
 exact aah_ (Nat.zero_le _) (by omega) (hK _ rfl)
def deW:PkD:=fun xs=>match xs with
 |[.int .i64 k]=>some fun l n=>(true,.returned (.int .i64 (C5_ l n k).1),(C5_ l n k).2)
 |_=>none
theorem adG_{l:List U8}{n k:Int}{β:Bs}{K:AE→List (Option AObj)→Prop}(hp:PkOk l n){c:Nat}(hc:c≤1)(hK: ∀q,q[0]? =some (some (pkO l.length c (C5_ l n k).2))→K (.returned (.int .i64 (C5_ l n k).1)) q):
  lawE Tryz.prog toldP2 100 20 β (fun _=>0) (cnOf 2 fun _=>[]) (fun _ _=>False) 45 [.pointer (some ⟨0,0,none⟩),.int .i64 k] (mkS (viP l c n)) (outK K):=by
 refine(ahi_ l c n k β K).mpr ?_
 try dsimp only
 obtain⟨k1,k2,k3⟩:=nF_ (m:=13) hp (by omega)
 rw[c7_,hp.b hc,hp.all,hp.d]
 refine nd_ rfl (nd_ (by simpa using k1) ?_)
 show selN 13 0 _ (fun i=>K (.returned (.int .i64 (wrF k (r7_.getD i 0)))) _)
 exact aah_ (Nat.zero_le _) (by omega) (hK _ rfl)
theorem aeU_:Z4_ Tryz.prog 44 (pickS (spPk deR)):=by
 refine O3_ (fun xs F l c n hd hp hb hc=> ?_) (fun xs F l n hd=> ?_)
 ·unfold deR at hd
  split at hd
  ·cases hd
   exact⟨toldP2,100,20,fun _=>0,fun _=>[],fun _ _=>False,toldP2_ok,fun β _ K hK=>ahW_ hp hc hK⟩
  ·cases hd
 ·unfold deR at hd
  split at hd
  ·cases hd;rfl
  ·cases hd
theorem acz_:Z4_ Tryz.prog 45 (pickS (spPk deW)):=by
 refine O3_ (fun xs F l c n hd hp hb hc=> ?_) (fun xs F l n hd=> ?_)
 ·unfold deW at hd
  split at hd
  ·cases hd
   exact⟨toldP2,100,20,fun _=>0,fun _=>[],fun _ _=>False,toldP2_ok,fun β _ K hK=>adG_ hp hc hK⟩
  ·cases hd
 ·unfold deW at hd
  split at hd
  ·cases hd;rfl
  ·cases hd
def toldP3:Told:=(toldP2.effT 44 (spPk deR)).effT 45 (spPk deW)
theorem toldP3_ok:a8_ Tryz.prog toldP3:=Told.effT_ok follows (Told.effT_ok follows toldP2_ok aeU_) acz_
theorem ahX_{l:List U8}{n:Int}(hp:PkOk l n):PkOk l (U1_ l n).2:=(nF_ (m:=15) hp (by omega)).2.2
theorem adH_{l:List U8}{n:Int}(k:Int)(hp:PkOk l n):PkOk l (C5_ l n k).2:=(nF_ (m:=13) hp (by omega)).2.2
theorem akA_(l:List U8)(c:Nat)(n k:Int)(β:Bs)(K:AE→List (Option AObj)→Prop):lawE Tryz.prog toldP3 100 20 β (fun _=>0) (cnOf 2 fun _=>[]) (fun _ _=>False) 22 [.pointer (some ⟨0,0,none⟩),.int .i64 k] (mkS (viP l c n)) (outK K)=
 (fun(z6:Nat) (z7:Addr)=>((fun(z2:AObj)=>((fun(z0:List U8)=>((fun(z1:Bool) (z3 z4 z5:List Value)=>(br (k==(1:Int)) (need z1 (K (.returned (Value.agg (Array.mk z5))) [some (.cells [.slice (some z7) z6 c,.int .i64 (Prod.snd (numF z0 n (2:Int)))] true 0),some z2,some (.cells z5 true 0),none])) (br (k==(5:Int)) (need z1 (K (.returned (Value.agg (Array.mk z4))) [some (.cells [.slice (some z7) z6 c,.int .i64 (Prod.snd (numF z0 n (15:Int)))] true 0),some z2,some (.cells z4 true 0),none])) (need z1 (K (.returned (Value.agg (Array.mk z3))) [some (.cells [.slice (some z7) z6 c,.int .i64 (Prod.snd (numF z0 n (13:Int)))] true 0),some z2,some (.cells z3 true 0),none]))))) (rowB U8 z6 c (some z2)&&List.all z0 (okA U8)&&decide ((0:Int)≤n)&&true) [.int .i64 k,.int .i64 (wrF k (List.getD r7_ (Int.toNat (Prod.fst (numF z0 n (13:Int)))) (0:Int))),.float .f64 0] [.int .i64 (5:Int),.int .i64 (0:Int),.float .f64 (List.getD U0_ (Int.toNat (Prod.fst (numF z0 n (15:Int)))) 0)] [.int .i64 (1:Int),.int .i64 (Prod.fst (numF z0 n (2:Int))),.float .f64 0])) (rowL U8 z6 (some z2)))) (.row .look 1 0 z6 (encL l)))) l.length ⟨1,0,some 0⟩:=by kernel_rfl
def pvF(l:List U8)(n k:Int):Vl×Int:=cond (k==1) (⟨1,(numF l n 2).1,0⟩,(numF l n 2).2) (cond (k==5) (⟨5,0,(U1_ l n).1⟩,(U1_ l n).2) (⟨k,(C5_ l n k).1,0⟩,(C5_ l n k).2))
def vlV(v:Vl):Value:= .agg ⟨[.int .i64 v.k,.int .i64 v.i,.float .f64 v.f]⟩
def deL:PkD:=fun xs=>match xs with
 |[.int .i64 k]=>some fun l n=>(true,.returned (vlV (pvF l n k).1),(pvF l n k).2)
 |_=>none
theorem aif_{l:List U8}{n k:Int}{β:Bs}{K:AE→List (Option AObj)→Prop}(hp:PkOk l n){c:Nat}(hc:c≤1)(hK: ∀q,q[0]? =some (some (pkO l.length c (pvF l n k).2))→K (.returned (vlV (pvF l n k).1)) q):
  lawE Tryz.prog toldP3 100 20 β (fun _=>0) (cnOf 2 fun _=>[]) (fun _ _=>False) 22 [.pointer (some ⟨0,0,none⟩),.int .i64 k] (mkS (viP l c n)) (outK K):=by
 refine(akA_ l c n k β K).mpr ?_
 try dsimp only
 rw[c7_,hp.b hc,hp.all,hp.d]
 unfold pvF at hK
 refine a0_ (fun h1=> ?_) (fun h1=>a0_ (fun h2=> ?_) (fun h2=> ?_))
 ·rw[h1]at hK
  exact nd_ rfl (hK _ rfl)
 ·rw[h1,h2]at hK
  exact nd_ rfl (hK _ rfl)
 ·rw[h1,h2]at hK
  exact nd_ rfl (hK _ rfl)
theorem afc_:Z4_ Tryz.prog 22 (pickS (spPk deL)):=by
 refine O3_ (fun xs F l c n hd hp hb hc=> ?_) (fun xs F l n hd=> ?_)
 ·unfold deL at hd
  split at hd
  ·cases hd
   exact⟨toldP3,100,20,fun _=>0,fun _=>[],fun _ _=>False,toldP3_ok,fun β _ K hK=>aif_ hp hc hK⟩
  ·cases hd
 ·unfold deL at hd
  split at hd
  ·cases hd;rfl
  ·cases hd
def C8_:Told:=toldP3.effT 22 (spPk deL)
theorem t5_:a8_ Tryz.prog C8_:=Told.effT_ok follows toldP3_ok afc_
theorem afe_{l:List U8}{n:Int}(k:Int)(hp:PkOk l n):PkOk l (pvF l n k).2:=by
 unfold pvF
 cases k==1 with
 |true=>exact(nF_ (m:=2) hp (by omega)).2.2
 |false=>
  cases k==5 with
  |true=>exact ahX_ hp
  |false=>exact adH_ k hp
def ptsL:List St:=[⟨⟨#[110]⟩⟩,⟨⟨#[120]⟩⟩,⟨⟨#[114]⟩⟩,⟨⟨#[107,91,48,93]⟩⟩,⟨⟨#[107,91,49,93]⟩⟩,⟨⟨#[111]⟩⟩,⟨⟨#[97]⟩⟩,⟨⟨#[98]⟩⟩,⟨⟨#[122,122]⟩⟩,⟨⟨#[107,91,57,93]⟩⟩]
def msC(k id:Int)(ps vs:Value):List Value:=[.int .i64 k,.int .i64 id,.int .i64 0,.int .i64 0,.int .i64 0,.bool false,.int .i64 0,.int .i64 0,.int .i64 0,.float .f64 0,ps,vs]
def slA1:List Nat:=[0,4,5,6,7]
def slA2:List Nat:=[0,4,6,8]
def lvsA(b:Nat):List Nat:=cond (Nat.beq b 1) slA1 slA2
def lvA1:AX→List Nat:=fun _=>slA1
def lvA2:AX→List Nat:=fun _=>slA2
def paL(l:List U8):Nat→Int→List St→List St×Int
 |0,n,ps=>(ps,n)
 |r+1,n,ps=>paL l r (numF l n 10).2 (ps++[ptsL.getD (numF l n 10).1.toNat Enc.dflt])
def FA1(i:Int):AFr:=mkF 102 [(0,.pointer (some ⟨0,0,none⟩)),(4,.pointer (some ⟨2,0,none⟩)),(5,.slice (some ⟨3,0,some 0⟩) 10 10),(6,.pointer (some ⟨4,0,none⟩)),(7,.int .i64 i)]
def SA1(l:List U8)(c:Nat)(id:Int)(n:Int)(ps:List St)(cp:Nat):ASt:=mkS [some (pkO l.length c n),some (rowO .look l),some (.cells (msC 0 0 (.slice none 0 0) (.slice none 0 0)) true 0),some (.row .mine 1 0 10 (encL ptsL)),some (.cells (msC 1 id (.slice (some ⟨5,0,some 0⟩) ps.length cp) (.slice none 0 0)) true 0),some (rowO .mine ps)]
def exA1(l:List U8)(c:Nat)(id:Int)(r:Nat)(n:Int):Nat→Kt→Prop:=fun b K=>K (.exit b) (FA1 0) (SA1 l c id (paL l r n []).2 (paL l r n []).1 1)
theorem akN_(l:List U8)(c:Nat)(id:Int)(r0:Nat)(n0:Int)(n i:Int)(ps:List St)(cp:Nat)(β:Bs)(Nx:Kt):c0_ Tryz.prog C8_ 100 20 β (fun _=>0) (cnOf 2 lvsA) (exA1 l c id r0 n0) 17 1 2 lvA1 (FA1 i) (SA1 l c id n ps cp) Nx=
 (fun(z0 z7:AObj) (z1:Int×Int) (z2:Bool) (z5 z6 z8:Nat)=>((fun(z3:Nat) (z4:AObj)=>(br (decide (i>(0:Int))) (need z2 (need z2 (need (decide ((0:Int)≤Prod.fst z1)) (need (Nat.blt (Int.toNat (Prod.fst z1)) 10) (need (Nat.ble 0 z3&&Nat.blt z3 10) (need (Nat.ble z6 1000000) (need (true&&Nat.ble (0+List.length ps) z5) (Nx .normal (mkF 102 [(0,.pointer (some ⟨0,0,none⟩)),(4,.pointer (some ⟨2,0,none⟩)),(5,.slice (some ⟨3,0,some 0⟩) 10 10),(6,.pointer (some ⟨4,0,none⟩)),(7,.int .i64 (IntKind.wrap .i64 (i-(1:Int))))]) (mkS [some (.cells [.slice (some ⟨1,0,some 0⟩) z8 c,.int .i64 (Prod.snd z1)] true 0),some z4,some z0,some z7,some (.cells [.int .i64 (1:Int),.int .i64 id,.int .i64 (0:Int),.int .i64 (0:Int),.int .i64 (0:Int),.bool false,.int .i64 (0:Int),.int .i64 (0:Int),.int .i64 (0:Int),.float .f64 0,.slice (some ⟨5,0,some 0⟩) z6 cp,.slice none 0 0] true 0),some (.row .mine 1 0 z6 fun j k=>mrgT (Nat.blt j z5) (encL ps (0+j) k) (selT 1 1 [.sc (.string (St.s (List.getD ptsL z3 Enc.dflt)))] (j-List.length ps) k))]))))))))) (Nx (.exit 1) (mkF 102 [(0,.pointer (some ⟨0,0,none⟩)),(4,.pointer (some ⟨2,0,none⟩)),(5,.slice (some ⟨3,0,some 0⟩) 10 10),(6,.pointer (some ⟨4,0,none⟩)),(7,.int .i64 i)]) (mkS [some (.cells [.slice (some ⟨1,0,some 0⟩) z8 c,.int .i64 n] true 0),some z4,some z0,some z7,some (.cells [.int .i64 (1:Int),.int .i64 id,.int .i64 (0:Int),.int .i64 (0:Int),.int .i64 (0:Int),.bool false,.int .i64 (0:Int),.int .i64 (0:Int),.int .i64 (0:Int),.float .f64 0,.slice (some ⟨5,0,some 0⟩) z5 cp,.slice none 0 0] true 0),some (.row .mine 1 0 z5 (encL ps))])))) (0+Int.toNat (Prod.fst z1)) (.row .look 1 0 z8 (encL l)))) (.cells [.int .i64 (0:Int),.int .i64 (0:Int),.int .i64 (0:Int),.int .i64 (0:Int),.int .i64 (0:Int),.bool false,.int .i64 (0:Int),.int .i64 (0:Int),.int .i64 (0:Int),.float .f64 0,.slice none 0 0,.slice none 0 0] true 0) (.row .mine 1 0 10 (encL ptsL)) (numF (Lr l) n (10:Int)) (Br l c&&List.all (Lr l) (okA U8)&&decide ((0:Int)≤n)&&true) ps.length (List.length ps+1) l.length:=by kernel_rfl
def C4_:List St:=[⟨⟨#[120]⟩⟩,⟨⟨#[107,91,48,93]⟩⟩,⟨⟨#[114]⟩⟩,⟨⟨#[120]⟩⟩,⟨⟨#[107,91,49,93]⟩⟩,⟨⟨#[111]⟩⟩]
def wrV(l:List U8)(n:Int):Vl×Int:=cond ((numF l n 6).1==2) (pvF l (numF l (numF l n 6).2 4).2 5) (⟨2,(numF l (numF l n 6).2 4).1,0⟩,(numF l (numF l n 6).2 4).2)
def wrL(l:List U8):Nat→Int→List St→List Vl→List St×List Vl×Int
 |0,n,ps,vs=>(ps,vs,n)
 |r+1,n,ps,vs=>wrL l r (wrV l n).2 (ps++[C4_.getD (numF l n 6).1.toNat Enc.dflt]) (vs++[(wrV l n).1])
def FA2(i:Int):AFr:=mkF 102 [(0,.pointer (some ⟨0,0,none⟩)),(4,.pointer (some ⟨2,0,none⟩)),(6,.pointer (some ⟨3,0,none⟩)),(8,.int .i64 i)]
def SA2(l:List U8)(c:Nat)(id:Int)(n:Int)(ps:List St)(cp:Nat)(vs:List Vl)(cv:Nat):ASt:=mkS [some (pkO l.length c n),some (rowO .look l),some (.cells (msC 0 0 (.slice none 0 0) (.slice none 0 0)) true 0),some (.cells (msC 2 id (.slice (some ⟨4,0,some 0⟩) ps.length cp) (.slice (some ⟨5,0,some 0⟩) vs.length cv)) true 0),some (rowO .mine ps),some (rowO .mine vs)]
def exA2(l:List U8)(c:Nat)(id:Int)(r:Nat)(n:Int):Nat→Kt→Prop:=fun b K=>K (.exit b) (FA2 0) (SA2 l c id (wrL l r n [] []).2.2 (wrL l r n [] []).1 1 (wrL l r n [] []).2.1 1)
theorem akM_(l:List U8)(c:Nat)(id:Int)(r0:Nat)(n0:Int)(n i:Int)(ps:List St)(cp:Nat)(vs:List Vl)(cv:Nat)(β:Bs)(Nx:Kt):c0_ Tryz.prog C8_ 100 20 β (fun _=>0) (cnOf 2 lvsA) (exA2 l c id r0 n0) 17 3 2 lvA2 (FA2 i) (SA2 l c id n ps cp vs cv) Nx=
 (fun(z1:AObj) (z3:AFr) (z14:Int×Int) (z15 z24 z26 z27 z29:Nat) (z28:Addr)=>((fun(z0 z10 z16 z17 z19 z20 z21:AObj) (z6:Int×Int) (z8 z11 z12 z18 z23 z25:Bool) (z22:Nat)=>((fun(z5 z9:AObj) (z13:Bool) (z30:Int×Int)=>((fun(z4 z7:AObj)=>((fun(z2:Prop)=>(br (decide (i>(0:Int))) (need (Br l c&&List.all (Lr l) (okA U8)&&decide ((0:Int)≤n)&&true) (need (decide ((0:Int)≤Prod.fst z14)) (br (Nat.beq z22 0) z2 (br (Nat.beq z22 1) (need z25 (need z18 (need z11 (br z23 (need z13 (need z12 (need z8 (Nx .normal z3 (mkS [some z7,some z10,some z1,some z0,some z16,some z4]))))) (need z12 (need z8 (Nx .normal z3 (mkS [some z9,some z10,some z1,some z0,some z16,some z5])))))))) (br (Nat.beq z22 2) (need z25 (need z18 (need z11 (br z23 (need z13 (need z12 (need z8 (Nx .normal z3 (mkS [some z7,some z10,some z1,some z0,some z19,some z4]))))) (need z12 (need z8 (Nx .normal z3 (mkS [some z9,some z10,some z1,some z0,some z19,some z5])))))))) (br (Nat.beq z22 3) z2 (br (Nat.beq z22 4) (need z25 (need z18 (need z11 (br z23 (need z13 (need z12 (need z8 (Nx .normal z3 (mkS [some z7,some z10,some z1,some z0,some z17,some z4]))))) (need z12 (need z8 (Nx .normal z3 (mkS [some z9,some z10,some z1,some z0,some z17,some z5])))))))) (need (Nat.beq z22 5) (need z25 (need z18 (need z11 (br z23 (need z13 (need z12 (need z8 (Nx .normal z3 (mkS [some z7,some z10,some z1,some z0,some z20,some z4]))))) (need z12 (need z8 (Nx .normal z3 (mkS [some z9,some z10,some z1,some z0,some z20,some z5])))))))))))))))) (Nx (.exit 3) (mkF 102 [(0,.pointer (some ⟨0,0,none⟩)),(4,.pointer (some ⟨2,0,none⟩)),(6,.pointer (some ⟨3,0,none⟩)),(8,.int .i64 i)]) (mkS [some (.cells [.slice (some z28) z29 c,.int .i64 n] true 0),some z10,some z1,some (.cells [.int .i64 (2:Int),.int .i64 id,.int .i64 (0:Int),.int .i64 (0:Int),.int .i64 (0:Int),.bool false,.int .i64 (0:Int),.int .i64 (0:Int),.int .i64 (0:Int),.float .f64 0,.slice (some ⟨4,0,some 0⟩) z24 cp,.slice (some ⟨5,0,some 0⟩) z26 cv] true 0),some (.row .mine 1 0 z24 (encL ps)),some (.row .mine 3 0 z26 (encL vs))])))) (need z25 (need z18 (need z11 (br z23 (need z13 (need z12 (need z8 (Nx .normal z3 (mkS [some z7,some z10,some z1,some z0,some z21,some z4]))))) (need z12 (need z8 (Nx .normal z3 (mkS [some z9,some z10,some z1,some z0,some z21,some z5])))))))))) (.row .mine 3 0 z27 fun j k=>mrgT (Nat.blt j z26) (encL vs (0+j) k) (selT 3 1 [.sc (.int .i64 (5:Int)),.sc (.int .i64 (0:Int)),.sc (.float .f64 (List.getD U0_ (Int.toNat (Prod.fst z30)) 0))] (j-List.length vs) k)) (.cells [.slice (some z28) z29 c,.int .i64 (Prod.snd z30)] true 0))) (.row .mine 3 0 z27 fun j k=>mrgT (Nat.blt j z26) (encL vs (0+j) k) (selT 3 1 [.sc (.int .i64 (2:Int)),.sc (.int .i64 (Prod.fst z6)),.sc (.float .f64 0)] (j-List.length vs) k)) (.cells [.slice (some z28) z29 c,.int .i64 (Prod.snd z6)] true 0) (Br l c&&List.all (Lr l) (okA U8)&&decide ((0:Int)≤Prod.snd z6)&&true) (numF (Lr l) (Prod.snd z6) (15:Int)))) (.cells [.int .i64 (2:Int),.int .i64 id,.int .i64 (0:Int),.int .i64 (0:Int),.int .i64 (0:Int),.bool false,.int .i64 (0:Int),.int .i64 (0:Int),.int .i64 (0:Int),.float .f64 0,.slice (some ⟨4,0,some 0⟩) z15 cp,.slice (some ⟨5,0,some 0⟩) z27 cv] true 0) (.row .look 1 0 z29 (encL l)) (.row .mine 1 0 z15 fun j k=>mrgT (Nat.blt j z24) (encL ps (0+j) k) (selT 1 1 [.sc (.string (ByteArray.mk #[(107:UInt8),(91:UInt8),(48:UInt8),(93:UInt8)]))] (j-List.length ps) k)) (.row .mine 1 0 z15 fun j k=>mrgT (Nat.blt j z24) (encL ps (0+j) k) (selT 1 1 [.sc (.string (ByteArray.mk #[(107:UInt8),(91:UInt8),(49:UInt8),(93:UInt8)]))] (j-List.length ps) k)) (.row .mine 1 0 z15 fun j k=>mrgT (Nat.blt j z24) (encL ps (0+j) k) (selT 1 1 [.sc (.string (ByteArray.mk #[(114:UInt8)]))] (j-List.length ps) k)) (.row .mine 1 0 z15
 fun j k=>mrgT (Nat.blt j z24) (encL ps (0+j) k) (selT 1 1 [.sc (.string (ByteArray.mk #[(111:UInt8)]))] (j-List.length ps) k)) (.row .mine 1 0 z15 fun j k=>mrgT (Nat.blt j z24) (encL ps (0+j) k) (selT 1 1 [.sc (.string (ByteArray.mk #[(120:UInt8)]))] (j-List.length ps) k)) (numF (Lr l) (Prod.snd z14) (4:Int)) (true&&Nat.ble (0+List.length vs) z26) (Br l c&&List.all (Lr l) (okA U8)&&decide ((0:Int)≤Prod.snd z14)&&true) (Nat.ble z27 1000000) (true&&Nat.ble (0+List.length ps) z24) (Prod.fst z14==(2:Int)) (Nat.ble z15 1000000) (Int.toNat (Prod.fst z14)))) (.cells [.int .i64 (0:Int),.int .i64 (0:Int),.int .i64 (0:Int),.int .i64 (0:Int),.int .i64 (0:Int),.bool false,.int .i64 (0:Int),.int .i64 (0:Int),.int .i64 (0:Int),.float .f64 0,.slice none 0 0,.slice none 0 0] true 0) (mkF 102 [(0,.pointer (some ⟨0,0,none⟩)),(4,.pointer (some ⟨2,0,none⟩)),(6,.pointer (some ⟨3,0,none⟩)),(8,.int .i64 (IntKind.wrap .i64 (i-(1:Int))))]) (numF (Lr l) n (6:Int)) (List.length ps+1) ps.length vs.length (List.length vs+1) l.length ⟨1,0,some 0⟩:=by kernel_rfl
def exAk(l:List U8)(c:Nat)(id n:Int):Nat→Kt→Prop:=fun b=>cond (Nat.beq b 1) (exA1 l c id ((numF l (numF l n 5).2 3).1+1).toNat (numF l (numF l n 5).2 3).2 b) (exA2 l c id ((numF l (numF l n 5).2 2).1+1).toNat (numF l (numF l n 5).2 2).2 b)
theorem anL_(l:List U8)(c:Nat)(n id:Int)(β:Bs)(K:AE→List (Option AObj)→Prop):lawE Tryz.prog C8_ 100 20 β (fun _=>0) (cnOf 2 lvsA) (exAk l c id n) 17 [.pointer (some ⟨0,0,none⟩),.int .i64 id] (mkS (viP l c n)) (outK K)=
 (fun(z2 z22 z30 z31 z32 z38 z39 z40 z41 z42 z43 z44:AObj) (z13:Int×Int) (z29:Addr) (z34:Nat) (z37:Int)=>((fun(z6:List St×List Vl×Int) (z9:AObj) (z19:List St×Int) (z21:Bool) (z33 z47 z48 z49 z50:Int×Int) (z36:Int)=>((fun(z3:Int×Int) (z5:Bool) (z18 z52 z53:Nat) (z28:Int) (z46:List Vl)=>((fun(z7:Bool) (z10 z14 z15 z16:List Value) (z20:AObj) (z35:Int×Int) (z45:Int)=>((fun(z1:List Value) (z4:Int×Int) (z12:Bool)=>((fun(z11 z24:AObj) (z17 z27:Bool) (z26:AE) (z51:Int×Int)=>((fun(z0:List Value) (z8:AObj)=>((fun(z23:AObj) (z25:AE)=>(need (Br l c&&List.all (Lr l) (okA U8)&&decide ((0:Int)≤n)&&true) (br (IntKind.wrap .i64 z36==(1:Int)) (need z21 (LoopJ Tryz.prog β (exAk l c id n) 1 (a5_ Tryz.prog 17 1) (mkF 102 [(0,.pointer (some ⟨0,0,none⟩)),(4,.pointer (some ⟨2,0,none⟩)),(5,.slice (some ⟨3,0,none⟩) 10 10),(6,.pointer (some ⟨4,0,none⟩)),(7,.int .i64 (IntKind.wrap .i64 (Prod.fst z48+(1:Int))))]) (mkS [some (.cells [.slice (some z29) z34 c,.int .i64 (Prod.snd z48)] true 0),some z9,some z22,some z2,some z20])∧K (.returned (Value.agg (Array.mk z10))) [some (.cells [.slice (some z29) z34 c,.int .i64 (Prod.snd z19)] true 0),some z9,some (.cells z10 true 0),some (.row .mine 1 0 10 (encL ptsL)),some (.cells z10 true 0),some (.row .mine 1 0 z52 (encL (Prod.fst z19)))])) (br (IntKind.wrap .i64 z36==(2:Int)) (need z21 (LoopJ Tryz.prog β (exAk l c id n) 3 (a5_ Tryz.prog 17 3) (mkF 102 [(0,.pointer (some ⟨0,0,none⟩)),(4,.pointer (some ⟨2,0,none⟩)),(6,.pointer (some ⟨3,0,none⟩)),(8,.int .i64 (IntKind.wrap .i64 (Prod.fst z49+(1:Int))))]) (mkS [some (.cells [.slice (some z29) z34 c,.int .i64 (Prod.snd z49)] true 0),some z9,some z22,some z20])∧K (.returned (Value.agg (Array.mk z14))) [some (.cells [.slice (some z29) z34 c,.int .i64 (Prod.snd (Prod.snd z6))] true 0),some z9,some (.cells z14 true 0),some (.cells z14 true 0),some (.row .mine 1 0 z53 (encL (Prod.fst z6))),some (.row .mine 3 0 z46.length (encL z46))])) (br (IntKind.wrap .i64 z36==(3:Int)) (need z21 (K (.returned (Value.agg (Array.mk z15))) [some (.cells [.slice (some z29) z34 c,.int .i64 (Prod.snd z47)] true 0),some z9,some (.cells z15 true 0),some z2,none,some (.cells z15 true 0),none])) (br (IntKind.wrap .i64 z36==(4:Int)) (need z21 (need z21 (need (decide ((0:Int)≤Prod.fst z33)) (br (Nat.beq z18 0) (need z5 (need z5 (need z7 (need z7 (need z12 (br z27 (need z17 (K z25 [some z8,some z9,some z23,some z2,none,some z23,none,some z39,none,none,none,none])) (K z26 [some z11,some z9,some z24,some z2,none,some z24,none,some z39,none,none,none]))))))) (br (Nat.beq z18 1) (need z5 (need z5 (need z7 (need z7 (need z12 (br z27 (need z17 (K z25 [some z8,some z9,some z23,some z2,none,some z23,none,some z40,none,none,none,none])) (K z26 [some z11,some z9,some z24,some z2,none,some z24,none,some z40,none,none,none]))))))) (br (Nat.beq z18 2) (need z5 (need z5 (need z7 (need z7 (need z12 (br z27 (need z17 (K z25 [some z8,some z9,some z23,some z2,none,some z23,none,some z41,none,none,none,none])) (K z26 [some z11,some z9,some z24,some z2,none,some z24,none,some z41,none,none,none]))))))) (br (Nat.beq z18 3) (need z5 (need z5 (need z7 (need z7 (need z12 (br z27 (need z17 (K z25 [some z8,some z9,some z23,some z2,none,some z23,none,some z30,none,none,none,none])) (K z26 [some z11,some z9,some z24,some z2,none,some z24,none,some z30,none,none,none]))))))) (br (Nat.beq z18 4) (need z5 (need z5 (need z7 (need z7 (need z12 (br z27 (need z17 (K z25 [some z8,some z9,some z23,some z2,none,some z23,none,some z31,none,none,none,none])) (K z26 [some z11,some z9,some z24,some z2,none,some z24,none,some z31,none,none,none])))))))
 (br (Nat.beq z18 5) (need z5 (need z5 (need z7 (need z7 (need z12 (br z27 (need z17 (K z25 [some z8,some z9,some z23,some z2,none,some z23,none,some z42,none,none,none,none])) (K z26 [some z11,some z9,some z24,some z2,none,some z24,none,some z42,none,none,none]))))))) (br (Nat.beq z18 6) (need z5 (need z5 (need z7 (need z7 (need z12 (br z27 (need z17 (K z25 [some z8,some z9,some z23,some z2,none,some z23,none,some z43,none,none,none,none])) (K z26 [some z11,some z9,some z24,some z2,none,some z24,none,some z43,none,none,none]))))))) (br (Nat.beq z18 7) (need z5 (need z5 (need z7 (need z7 (need z12 (br z27 (need z17 (K z25 [some z8,some z9,some z23,some z2,none,some z23,none,some z44,none,none,none,none])) (K z26 [some z11,some z9,some z24,some z2,none,some z24,none,some z44,none,none,none]))))))) (br (Nat.beq z18 8) (need z5 (need z5 (need z7 (need z7 (need z12 (br z27 (need z17 (K z25 [some z8,some z9,some z23,some z2,none,some z23,none,some z38,none,none,none,none])) (K z26 [some z11,some z9,some z24,some z2,none,some z24,none,some z38,none,none,none]))))))) (need (Nat.beq z18 9) (need z5 (need z5 (need z7 (need z7 (need z12 (br z27 (need z17 (K z25 [some z8,some z9,some z23,some z2,none,some z23,none,some z32,none,none,none,none])) (K z26 [some z11,some z9,some z24,some z2,none,some z24,none,some z32,none,none,none])))))))))))))))))))) (need z21 (K (.returned (Value.agg (Array.mk z16))) [some (.cells [.slice (some z29) z34 c,.int .i64 (Prod.snd z50)] true 0),some z9,some (.cells z16 true 0),some z2,none,some (.cells z16 true 0),none])))))))) (.cells z0 true 0) (.returned (Value.agg (Array.mk z0))))) [.int .i64 z28,.int .i64 id,.int .i64 (0:Int),.int .i64 (Prod.fst z35),.int .i64 (0:Int),.bool false,.int .i64 z45,.int .i64 (2:Int),.int .i64 (wrF (2:Int) (List.getD r7_ (Int.toNat (Prod.fst z51)) (0:Int))),.float .f64 0,.slice (some ⟨7,0,none⟩) 1 1,.slice none 0 0] (.cells [.slice (some z29) z34 c,.int .i64 (Prod.snd z51)] true 0))) (.cells [.slice (some z29) z34 c,.int .i64 (Prod.snd z4)] true 0) (.cells z1 true 0) (Br l c&&List.all (Lr l) (okA U8)&&decide ((0:Int)≤Prod.snd z4)&&true) (Prod.fst z4==(0:Int)) (.returned (Value.agg (Array.mk z1))) (numF (Lr l) (Prod.snd z4) (13:Int)))) [.int .i64 z28,.int .i64 id,.int .i64 (0:Int),.int .i64 (Prod.fst z35),.int .i64 (0:Int),.bool false,.int .i64 z45,.int .i64 (0:Int),.int .i64 (0:Int),.float .f64 0,.slice (some ⟨7,0,none⟩) 1 1,.slice none 0 0] (numF (Lr l) (Prod.snd z35) (2:Int)) (Br l c&&List.all (Lr l) (okA U8)&&decide ((0:Int)≤Prod.snd z35)&&true))) (Br l c&&List.all (Lr l) (okA U8)&&decide ((0:Int)≤Prod.snd z3)&&true) [.int .i64 (1:Int),.int .i64 id,.int .i64 (0:Int),.int .i64 (0:Int),.int .i64 (0:Int),.bool false,.int .i64 (0:Int),.int .i64 (0:Int),.int .i64 (0:Int),.float .f64 0,.slice (some ⟨5,0,some 0⟩) z52 1,.slice none 0 0] [.int .i64 (2:Int),.int .i64 id,.int .i64 (0:Int),.int .i64 (0:Int),.int .i64 (0:Int),.bool false,.int .i64 (0:Int),.int .i64 (0:Int),.int .i64 (0:Int),.float .f64 0,.slice (some ⟨4,0,some 0⟩) z53 1,.slice (some ⟨5,0,some 0⟩) z46.length 1] [.int .i64 z28,.int .i64 id,.int .i64 (0:Int),.int .i64 (Prod.fst z47),.int .i64 (0:Int),.bool false,.int .i64 (0:Int),.int .i64 (0:Int),.int .i64 (0:Int),.float .f64 0,.slice none 0 0,.slice none 0 0] [.int .i64 z28,.int .i64 id,.int .i64 (0:Int),.int .i64 (Prod.fst z50),.int .i64 (0:Int),.bool false,.int .i64 (0:Int),.int .i64 (0:Int),.int .i64 (0:Int),.float .f64 0,.slice none 0 0,.slice none 0 0] (.cells [.int .i64 z28,.int .i64 id,.int .i64 (0:Int),.int .i64 (0:Int),.int .i64 (0:Int),.bool false,.int .i64 (0:Int),.int .i64 (0:Int),.int .i64 (0:Int),.float .f64 0,.slice none 0 0,.slice none 0 0]
 true 0) (numF (Lr l) (Prod.snd z3) (4:Int)) (IntKind.wrap .i64 (Prod.fst z3*(10:Int))))) (numF (Lr l) (Prod.snd z33) (4:Int)) (Br l c&&List.all (Lr l) (okA U8)&&decide ((0:Int)≤Prod.snd z33)&&true) (Int.toNat (Prod.fst z33)) (List.length (Prod.fst z19)) (List.length (Prod.fst z6)) (IntKind.wrap .i64 z36) (Prod.fst (Prod.snd z6)))) (wrL l (Int.toNat (Prod.fst (numF l z37 (2:Int))+(1:Int))) (Prod.snd (numF l z37 (2:Int))) [] []) (.row .look 1 0 z34 (encL l)) (paL l (Int.toNat (Prod.fst (numF l z37 (3:Int))+(1:Int))) (Prod.snd (numF l z37 (3:Int))) []) (Br l c&&List.all (Lr l) (okA U8)&&decide ((0:Int)≤Prod.snd z13)&&true) (numF (Lr l) (Prod.snd z13) (9:Int)) (numF (Lr l) (Prod.snd z13) (12:Int)) (numF (Lr l) (Prod.snd z13) (3:Int)) (numF (Lr l) (Prod.snd z13) (2:Int)) (numF (Lr l) (Prod.snd z13) (4:Int)) ((1:Int)+Prod.fst z13))) (.cells [.string (ByteArray.mk #[(110:UInt8)]),.string (ByteArray.mk #[(120:UInt8)]),.string (ByteArray.mk #[(114:UInt8)]),.string (ByteArray.mk #[(107:UInt8),(91:UInt8),(48:UInt8),(93:UInt8)]),.string (ByteArray.mk #[(107:UInt8),(91:UInt8),(49:UInt8),(93:UInt8)]),.string (ByteArray.mk #[(111:UInt8)]),.string (ByteArray.mk #[(97:UInt8)]),.string (ByteArray.mk #[(98:UInt8)]),.string (ByteArray.mk #[(122:UInt8),(122:UInt8)]),.string (ByteArray.mk #[(107:UInt8),(91:UInt8),(57:UInt8),(93:UInt8)])] true 1) (.cells [.int .i64 (0:Int),.int .i64 (0:Int),.int .i64 (0:Int),.int .i64 (0:Int),.int .i64 (0:Int),.bool false,.int .i64 (0:Int),.int .i64 (0:Int),.int .i64 (0:Int),.float .f64 0,.slice none 0 0,.slice none 0 0] true 0) (.cells [.string (ByteArray.mk #[(107:UInt8),(91:UInt8),(48:UInt8),(93:UInt8)])] true 1) (.cells [.string (ByteArray.mk #[(107:UInt8),(91:UInt8),(49:UInt8),(93:UInt8)])] true 1) (.cells [.string (ByteArray.mk #[(107:UInt8),(91:UInt8),(57:UInt8),(93:UInt8)])] true 1) (.cells [.string (ByteArray.mk #[(122:UInt8),(122:UInt8)])] true 1) (.cells [.string (ByteArray.mk #[(110:UInt8)])] true 1) (.cells [.string (ByteArray.mk #[(120:UInt8)])] true 1) (.cells [.string (ByteArray.mk #[(114:UInt8)])] true 1) (.cells [.string (ByteArray.mk #[(111:UInt8)])] true 1) (.cells [.string (ByteArray.mk #[(97:UInt8)])] true 1) (.cells [.string (ByteArray.mk #[(98:UInt8)])] true 1) (numF (Lr l) n (5:Int)) ⟨1,0,some 0⟩ l.length (Prod.snd (numF l n (5:Int))):=by kernel_rfl
structure P1 where
 r:Nat
 n:Int
 ps:List St
def I1(l:List U8)(r0:Nat)(n0:Int)(p:P1):Prop:=PkOk l p.n∧p.ps.length+p.r≤100∧paL l p.r p.n p.ps=paL l r0 n0 []
theorem agP_{l:List U8}{c:Nat}{id:Int}{β:Bs}(hβ:β.X.length=2)(hc:c≤1){r0:Nat}{n0:Int}(hr:r0≤50)(hp:PkOk l n0):
  LoopJ Tryz.prog β (exA1 l c id r0 n0) 1 (a5_ Tryz.prog 17 1) (FA1 (r0:Nat)) (SA1 l c id n0 [] 1):=by
 refine b2_ (I1 l r0 n0) (fun p:P1=>FA1 (p.r:Nat)) (fun p:P1=>SA1 l c id p.n p.ps 1) (fun p:P1=>p.r) (fun p hI K hK=> ?_) ⟨r0,n0,[]⟩ ⟨hp,by show 0+r0≤100;omega,rfl⟩
 have hK:K (.exit 1) (FA1 0) (SA1 l c id (paL l r0 n0 []).2 (paL l r0 n0 []).1 1):=hK
 show J _ β _ _ _ (Nn β (I1 l r0 n0) (fun p:P1=>p.r) (fun p:P1=>FA1 (p.r:Nat)) (fun p:P1=>SA1 l c id p.n p.ps 1) p K)
 obtain⟨h1,h2,h3⟩:=hI
 refine rJ_ (E:=2) (lvs:=lvsA) (un:=fun _=>0) (fuel:=100) (n:=20) (ex:=exA1 l c id r0 n0) follows t5_ hβ (lv:=lvA1) ?_
 rw[akN_,Z3_,h1.br hc,h1.all,h1.d]
 obtain⟨r,n,ps⟩:=p
 cases r with
 |zero=>
  refine a0_ (fun h=>by simp at h) (fun _=> ?_)
  rw[←h3]at hK
  exact Nn.exit (Seen.refl _ _ _) hK
 |succ r=>
  refine a0_ (fun _=> ?_) (fun h=>by simp at h)
  obtain⟨k1,k2,k3⟩:=nF_ (m:=10) h1 (by omega)
  have hps:ps.length+(r+1)≤100:=h2
  refine nd_ rfl (nd_ rfl (nd_ (by simpa using k1) (nd_ (by simp;omega) (nd_ (by simp;omega) (nd_ (by simp;omega) (nd_ (by simp) ?_))))))
  have hw:IntKind.wrap .i64 (((r+1:Nat):Int)-1)=(r:Int):=by rw[w64 (by omega) (by omega)];omega
  rw[hw]
  refine Nn.next (I:=I1 l r0 n0) (m:=fun p:P1=>p.r) (F:=fun p:P1=>FA1 (p.r:Nat)) (S:=fun p:P1=>SA1 l c id p.n p.ps 1) (p:=⟨r+1,n,ps⟩) ⟨r,(numF l n 10).2,ps++[ptsL.getD (numF l n 10).1.toNat Enc.dflt]⟩ ⟨k3,by show(ps++[_]).length+r≤100;rw[List.length_append];simp;omega,h3⟩ (Nat.lt_succ_self _) ?_
  refine Seen.objs rfl fun q o2 h=> ?_
  have hl:(ps++[ptsL.getD (numF l n 10).1.toNat Enc.dflt]).length=ps.length+1:=by simp
  match q,h with
  |0,h=>cases h;exact⟨_,rfl,rfl,fun _ _ _ h=>h⟩
  |1,h=>cases h;exact⟨_,rfl,rfl,fun _ _ _ h=>h⟩
  |2,h=>cases h;exact⟨_,rfl,rfl,fun _ _ _ h=>h⟩
  |3,h=>cases h;exact⟨_,rfl,rfl,fun _ _ _ h=>h⟩
  |4,h=>cases h;exact⟨_,by rw[hl];rfl,rfl,fun _ _ _ h=>h⟩
  |5,h=>cases h;exact⟨_,rfl,rfl,fun _ _ _ h=>k6_ (α:=St) rfl rfl (fun _ _=>rfl) (fun j hj=>by
    have hj:j<1:=hj
    have:j=0:=by omega
    subst this
    rw[Nat.zero_add];rfl) h⟩
  |_+6,h=>cases h
structure P2 where
 r:Nat
 n:Int
 ps:List St
 vs:List Vl
theorem ajs_{l:List U8}{n:Int}(hp:PkOk l n):PkOk l (wrV l n).2:=by
 have h1:=(nF_ (m:=6) hp (by omega)).2.2
 have h2:=(nF_ (m:=4) h1 (by omega)).2.2
 unfold wrV
 cases((numF l n 6).1==2)with
 |true=>exact afe_ 5 h2
 |false=>exact h2
def I2(l:List U8)(r0:Nat)(n0:Int)(p:P2):Prop:=PkOk l p.n∧p.ps.length+p.r≤100∧p.vs.length+p.r≤100∧wrL l p.r p.n p.ps p.vs=wrL l r0 n0 [] []
def F2(p:P2):AFr:=FA2 (p.r:Nat)
def S2(l:List U8)(c:Nat)(id:Int)(p:P2):ASt:=SA2 l c id p.n p.ps 1 p.vs 1
theorem Y8_{l:List U8}{c:Nat}{id:Int}{β:Bs}{r0:Nat}{n0:Int}{r:Nat}{n:Int}{ps:List St}{vs:List Vl}{K:Kt}(hI:I2 l r0 n0 ⟨r+1,n,ps,vs⟩){s:ByteArray}{v:Vl}{n':Int}
  (hs:s=(C4_.getD (numF l n 6).1.toNat Enc.dflt).s) (hv:v=(wrV l n).1) (hn:n'=(wrV l n).2):
  Nn β (I2 l r0 n0) P2.r F2 (S2 l c id) ⟨r+1,n,ps,vs⟩ K .normal (mkF 102 [(0,.pointer (some ⟨0,0,none⟩)),(4,.pointer (some ⟨2,0,none⟩)),(6,.pointer (some ⟨3,0,none⟩)),(8,.int .i64 (IntKind.wrap .i64 (((r+1:Nat):Int)-1)))])
   (mkS [some (.cells [.slice (some ⟨1,0,some 0⟩) l.length c,.int .i64 n'] true 0),some (.row .look 1 0 l.length (encL l)),some (.cells (msC 0 0 (.slice none 0 0) (.slice none 0 0)) true 0),
    some (.cells (msC 2 id (.slice (some ⟨4,0,some 0⟩) (ps.length+1) 1) (.slice (some ⟨5,0,some 0⟩) (vs.length+1) 1)) true 0),
    some (.row .mine 1 0 (ps.length+1) fun j k=>mrgT (Nat.blt j ps.length) (encL ps (0+j) k) (selT 1 1 [Td.sc (.string s)] (j-ps.length) k)),
    some (.row .mine 3 0 (vs.length+1) fun j k=>mrgT (Nat.blt j vs.length) (encL vs (0+j) k) (selT 3 1 [Td.sc (.int .i64 v.k),Td.sc (.int .i64 v.i),Td.sc (.float .f64 v.f)] (j-vs.length) k))]):=by
 subst hs hv hn
 obtain⟨h1,h2,h3,h4⟩:=hI
 have h2:ps.length+(r+1)≤100:=h2
 have h3:vs.length+(r+1)≤100:=h3
 have hw:IntKind.wrap .i64 (((r+1:Nat):Int)-1)=(r:Int):=by rw[w64 (by omega) (by omega)];omega
 rw[hw]
 refine Nn.next (I:=I2 l r0 n0) (m:=P2.r) (F:=F2) (S:=S2 l c id) (p:=⟨r+1,n,ps,vs⟩) ⟨r,(wrV l n).2,ps++[C4_.getD (numF l n 6).1.toNat Enc.dflt],vs++[(wrV l n).1]⟩ ⟨ajs_ h1,by show(ps++[_]).length+r≤100;rw[List.length_append];simp;omega,by show(vs++[_]).length+r≤100;rw[List.length_append];simp;omega,h4⟩ (Nat.lt_succ_self _) ?_
 refine Seen.objs rfl fun q o2 h=> ?_
 have hl:(ps++[C4_.getD (numF l n 6).1.toNat Enc.dflt]).length=ps.length+1:=by simp
 have hl2:(vs++[(wrV l n).1]).length=vs.length+1:=by simp
 match q,h with
 |0,h=>cases h;exact⟨_,rfl,rfl,fun _ _ _ h=>h⟩
 |1,h=>cases h;exact⟨_,rfl,rfl,fun _ _ _ h=>h⟩
 |2,h=>cases h;exact⟨_,rfl,rfl,fun _ _ _ h=>h⟩
 |3,h=>cases h;exact⟨_,by rw[hl,hl2];rfl,rfl,fun _ _ _ h=>h⟩
 |4,h=>cases h;exact⟨_,rfl,rfl,fun _ _ _ h=>k6_ (α:=St) rfl rfl (fun _ _=>rfl) (fun j hj=>by
   have hj:j<1:=hj
   have:j=0:=by omega
   subst this
   rfl) h⟩
 |5,h=>cases h;exact⟨_,rfl,rfl,fun _ _ _ h=>k6_ (α:=Vl) rfl rfl (fun _ _=>rfl) (fun j hj=>by
   have hj:j<3:=hj
   match j,hj with
   |0,_=>rfl
   |1,_=>rfl
   |2,_=>rfl) h⟩
 |_+6,h=>cases h
theorem beq5{N:Nat}(h:N<6)(e0:Nat.beq N 0=false)(e1:Nat.beq N 1=false)(e2:Nat.beq N 2=false)(e3:Nat.beq N 3=false)(e4:Nat.beq N 4=false):Nat.beq N 5=true:=by
 have n0:=Nat.ne_of_beq_eq_false e0
 have n1:=Nat.ne_of_beq_eq_false e1
 have n2:=Nat.ne_of_beq_eq_false e2
 have n3:=Nat.ne_of_beq_eq_false e3
 have n4:=Nat.ne_of_beq_eq_false e4
 have:N=5:=by omega
 rw[this];rfl
theorem ait_{b:Bool}{K:Prop}(hb:b=true)(h:b=true→K):need b K:=nd_ hb (h hb)
theorem agO_{l:List U8}{c:Nat}{id:Int}{β:Bs}(hβ:β.X.length=2)(hc:c≤1){r0:Nat}{n0:Int}(hr:r0≤50)(hp:PkOk l n0):
  LoopJ Tryz.prog β (exA2 l c id r0 n0) 3 (a5_ Tryz.prog 17 3) (FA2 (r0:Nat)) (SA2 l c id n0 [] 1 [] 1):=by
 refine b2_ (I2 l r0 n0) F2 (S2 l c id) P2.r (fun p hI K hK=> ?_) ⟨r0,n0,[],[]⟩ ⟨hp,by show 0+r0≤100;omega,by show 0+r0≤100;omega,rfl⟩
 have hK:K (.exit 3) (FA2 0) (SA2 l c id (wrL l r0 n0 [] []).2.2 (wrL l r0 n0 [] []).1 1 (wrL l r0 n0 [] []).2.1 1):=hK
 show J _ β _ _ _ (Nn β (I2 l r0 n0) P2.r F2 (S2 l c id) p K)
 obtain⟨h1,h2,h3,h4⟩:=hI
 have hI:I2 l r0 n0 p:=⟨h1,h2,h3,h4⟩
 refine rJ_ (E:=2) (lvs:=lvsA) (un:=fun _=>0) (fuel:=100) (n:=20) (ex:=exA2 l c id r0 n0) follows t5_ hβ (lv:=lvA2) ?_
 obtain⟨r,n,ps,vs⟩:=p
 have hn1:=(nF_ (m:=6) h1 (by omega)).2.2
 have hn2:=(nF_ (m:=4) hn1 (by omega)).2.2
 refine(akM_ l c id r0 n0 n (r:Nat) ps 1 vs 1 β _).mpr ?_
 try dsimp only
 rw[Z3_,h1.br hc,h1.all,h1.d,hn1.d,hn2.d]
 cases r with
 |zero=>
  refine a0_ (fun h=>by simp at h) (fun _=> ?_)
  rw[←h4]at hK
  exact Nn.exit (Seen.refl _ _ _) hK
 |succ r=>
  refine a0_ (fun _=> ?_) (fun h=>by simp at h)
  obtain⟨k1,k2,k3⟩:=nF_ (m:=6) h1 (by omega)
  have k1:0≤(numF l n 6).1:=k1
  have k2:(numF l n 6).1<6:=k2
  have h2:ps.length+(r+1)≤100:=h2
  have h3:vs.length+(r+1)≤100:=h3
  have hv1:((numF l n 6).1==2)=true→pvF l (numF l (numF l n 6).2 4).2 5=wrV l n:=fun h=>by unfold wrV;rw[h];rfl
  have hv2:((numF l n 6).1==2)=false→((⟨2,(numF l (numF l n 6).2 4).1,0⟩,(numF l (numF l n 6).2 4).2):Vl×Int)=wrV l n:=fun h=>by unfold wrV;rw[h];rfl
  have b1:Nat.ble (ps.length+1) 1000000=true:=Nat.ble_eq_true_of_le (by omega)
  have b2:Nat.ble (vs.length+1) 1000000=true:=Nat.ble_eq_true_of_le (by omega)
  have b3:(true&&Nat.ble (0+ps.length) ps.length)=true:=by simp
  have b4:(true&&Nat.ble (0+vs.length) vs.length)=true:=by simp
  refine nd_ rfl (nd_ (by simpa using k1) ?_)
  have hN:(numF l n 6).1.toNat<6:=by omega
  refine a0_ (fun hi=> ?_) (fun e0=>a0_ (fun hi=> ?_) (fun e1=>a0_ (fun hi=> ?_) (fun e2=>a0_ (fun hi=> ?_) (fun e3=>a0_ (fun hi=> ?_) (fun e4=>ait_ (beq5 hN e0 e1 e2 e3 e4) (fun hi=> ?_))))))
  all_goals
   refine nd_ b1 (nd_ b3 (nd_ rfl (a0_ (fun hq=>nd_ rfl (nd_ b2 (nd_ b4 ?_))) (fun hq=>nd_ b2 (nd_ b4 ?_)))))
   ·exact Y8_ (v:=(pvF l (numF l (numF l n 6).2 4).2 5).1) (n':=(pvF l (numF l (numF l n 6).2 4).2 5).2) hI (by rw[Nat.eq_of_beq_eq_true hi];rfl) (congrArg Prod.fst (hv1 hq)) (congrArg Prod.snd (hv1 hq))
   ·exact Y8_ (v:=⟨2,(numF l (numF l n 6).2 4).1,0⟩) (n':=(numF l (numF l n 6).2 4).2) hI (by rw[Nat.eq_of_beq_eq_true hi];rfl) (congrArg Prod.fst (hv2 hq)) (congrArg Prod.snd (hv2 hq))
structure PkS where
 b:Bool
 r:AE
 n:Int
 nw:List AObj
inductive PkX where
 |one (s:PkS)
 |br (b:Bool) (x y:PkX)
def PkX.pick:PkX→PkS
 | .one s=>s
 | .br b x y=>cond b x.pick y.pick
def PkX.toS(k c:Nat)(vw:List (Option AObj))(b0:Bool):PkX→SpT
 | .one s=> .one ⟨b0&&s.b,vw,s.r,[.to (pkO k c s.n),.same],s.nw⟩
 | .br b x y=> .br b (x.toS k c vw b0) (y.toS k c vw b0)
theorem M5_(k c:Nat)(vw:List (Option AObj))(b0:Bool): ∀t:PkX,(t.toS k c vw b0).pick=⟨b0&&t.pick.b,vw,t.pick.r,[.to (pkO k c t.pick.n),.same],t.pick.nw⟩
 | .one s=>rfl
 | .br b x y=>by
  cases b with
  |true=>exact M5_ k c vw b0 x
  |false=>exact M5_ k c vw b0 y
abbrev PkE:Type:=List Value→Option (List U8→Int→PkX)
def spPn(dec:PkE)(args:List Value)(objs:List (Option AObj)):Option SpT:=match args,objs with
 | .pointer (some ⟨0,0,none⟩)::xs,[some (.cells [.slice (some ⟨1,0,some 0⟩) k c,.int .i64 n] true 0),o1]=>match dec xs with
  |some F=>some ((F (rowL U8 k o1) n).toS k c (viP (rowL U8 k o1) c n) (rowB U8 k c o1&&(rowL U8 k o1).all (okA U8)&&decide (0≤n)))
  |none=>none
 |_,_=>none
def PkK(l:List U8)(c:Nat)(s:PkS)(K:AE→List (Option AObj)→Prop):Prop:= ∀(q:List (Option AObj)) (nm:List Nat),nm.length=s.nw.length→nm.Nodup→(∀x∈nm,2≤x)→2≤q.length→q[0]? =some (some (pkO l.length c s.n))→
 (∀(j x:Nat) o,nm[j]? =some x→s.nw[j]? =some o→q[x]? =some (some (bkO (lkAt 2 nm) o)))→K (bkE (lkAt 2 nm) s.r) q
def q5(l:List U8)(n:Int):Int×Int:=numF l n 5
def qr1(l:List U8)(n:Int):List St×Int:=paL l ((numF l (numF l n 5).2 3).1+1).toNat (numF l (numF l n 5).2 3).2 []
def qr2(l:List U8)(n:Int):List St×List Vl×Int:=wrL l ((numF l (numF l n 5).2 2).1+1).toNat (numF l (numF l n 5).2 2).2 [] []
def qp(l:List U8)(n:Int):Int×Int:=numF l (numF l n 5).2 9
def qe(l:List U8)(n:Int):Int×Int:=numF l (qp l n).2 4
def qn(l:List U8)(n:Int):Int×Int:=numF l (qe l n).2 4
def qb(l:List U8)(n:Int):Int×Int:=numF l (qn l n).2 2
def qv(l:List U8)(n:Int):Vl×Int:=cond ((qb l n).1==0) (pvF l (qb l n).2 2) (⟨0,0,0⟩,(qb l n).2)
def am1(l:List U8)(id n:Int):Ms:=⟨1,id,0,0,0,false,0,⟨0,0,0⟩,(qr1 l n).1,1,[],1⟩
def am2(l:List U8)(id n:Int):Ms:=⟨2,id,0,0,0,false,0,⟨0,0,0⟩,(qr2 l n).1,1,(qr2 l n).2.1,1⟩
def am3(l:List U8)(id n:Int):Ms:=⟨3,id,0,(numF l (numF l n 5).2 12).1,0,false,0,⟨0,0,0⟩,[],1,[],1⟩
def am4(l:List U8)(id n:Int):Ms:=⟨4,id,0,(qn l n).1,0,false,(qe l n).1*10,(qv l n).1,[ptsL.getD (qp l n).1.toNat Enc.dflt],0,[],1⟩
def am5(l:List U8)(id n:Int):Ms:=⟨5,id,0,(numF l (numF l n 5).2 4).1,0,false,0,⟨0,0,0⟩,[],1,[],1⟩
def askM(l:List U8)(id n:Int):Ms×Int:=cond ((numF l n 5).1==0) (am1 l id n,(qr1 l n).2) (cond ((numF l n 5).1==1) (am2 l id n,(qr2 l n).2.2) (cond ((numF l n 5).1==2) (am3 l id n,(numF l (numF l n 5).2 12).2)
 (cond ((numF l n 5).1==3) (am4 l id n,(qv l n).2) (am5 l id n,(numF l (numF l n 5).2 4).2))))
def msCs(m:Ms)(ps vs:Value):List Value:=[.int .i64 m.k,.int .i64 m.id,.int .i64 m.er,.int .i64 m.n,.int .i64 m.sq,.bool m.lo,.int .i64 m.ev,.int .i64 m.bd.k,.int .i64 m.bd.i,.float .f64 m.bd.f,ps,vs]
def as1(l:List U8)(id n:Int):PkS:=⟨true,.returned (.agg ⟨msCs (am1 l id n) (.slice (some ⟨2,0,some 0⟩) (qr1 l n).1.length 1) (.slice none 0 0)⟩),(qr1 l n).2,[rowO .mine (qr1 l n).1]⟩
def as2(l:List U8)(id n:Int):PkS:=⟨true,.returned (.agg ⟨msCs (am2 l id n) (.slice (some ⟨2,0,some 0⟩) (qr2 l n).1.length 1) (.slice (some ⟨3,0,some 0⟩) (qr2 l n).2.1.length 1)⟩),(qr2 l n).2.2,[rowO .mine (qr2 l n).1,rowO .mine (qr2 l n).2.1]⟩
def as3(l:List U8)(id n:Int):PkS:=⟨true,.returned (.agg ⟨msCs (am3 l id n) (.slice none 0 0) (.slice none 0 0)⟩),(numF l (numF l n 5).2 12).2,[]⟩
def as4(l:List U8)(id n:Int):PkS:=⟨true,.returned (.agg ⟨msCs (am4 l id n) (.slice (some ⟨2,0,none⟩) 1 1) (.slice none 0 0)⟩),(qv l n).2,[.cells [.string (ptsL.getD (qp l n).1.toNat Enc.dflt).s] true 1]⟩
def as5(l:List U8)(id n:Int):PkS:=⟨true,.returned (.agg ⟨msCs (am5 l id n) (.slice none 0 0) (.slice none 0 0)⟩),(numF l (numF l n 5).2 4).2,[]⟩
def askX(l:List U8)(id n:Int):PkX:= .br ((numF l n 5).1==0) (.one (as1 l id n)) (.br ((numF l n 5).1==1) (.one (as2 l id n)) (.br ((numF l n 5).1==2) (.one (as3 l id n)) (.br ((numF l n 5).1==3) (.one (as4 l id n)) (.one (as5 l id n)))))
theorem k_eq{x:Int}(h1:0≤x)(h2:x<5)(j:Int):(IntKind.wrap .i64 (1+x)==1+j)=(x==j):=by
 rw[w64 (by omega) (by omega)]
 rw[Bool.eq_iff_iff,beq_iff_eq,beq_iff_eq]
 omega
theorem agN_{l:List U8}{c:Nat}{id:Int}{β:Bs}(hβ:β.X.length=2){n:Int}{r:Nat}:Seen β (mkF 102 [(0,.pointer (some ⟨0,0,none⟩)),(4,.pointer (some ⟨2,0,none⟩)),(5,.slice (some ⟨3,0,none⟩) 10 10),(6,.pointer (some ⟨4,0,none⟩)),(7,.int .i64 (r:Nat))])
  (mkS [some (pkO l.length c n),some (rowO .look l),some (.cells (msC 0 0 (.slice none 0 0) (.slice none 0 0)) true 0),some (.cells (ptsL.map fun s=> .string s.s) true 1),some (.cells (msC 1 id (.slice none 0 0) (.slice none 0 0)) true 0)]) (FA1 (r:Nat)) (SA1 l c id n [] 1):=by
 refine Seen.trans (Seen.cellsRow (f':=mkF 102 [(0,.pointer (some ⟨0,0,none⟩)),(4,.pointer (some ⟨2,0,none⟩)),(5,.slice (some ⟨5,0,some 0⟩) 10 10),(6,.pointer (some ⟨4,0,none⟩)),(7,.int .i64 (r:Nat))]) 3 1 0 10 10 5 (cs:=ptsL.map fun s=> .string s.s) rfl rfl rfl (by decide) (by decide) (by decide) (encL ptsL) (fun i hi j hj=> ?_) rfl rfl (fun u v h=> ?_)) ?_
 ·have hj:j=0:=by omega
  subst hj
  match i,hi with
  |0,_=>exact⟨_,rfl,rfl⟩
  |1,_=>exact⟨_,rfl,rfl⟩
  |2,_=>exact⟨_,rfl,rfl⟩
  |3,_=>exact⟨_,rfl,rfl⟩
  |4,_=>exact⟨_,rfl,rfl⟩
  |5,_=>exact⟨_,rfl,rfl⟩
  |6,_=>exact⟨_,rfl,rfl⟩
  |7,_=>exact⟨_,rfl,rfl⟩
  |8,_=>exact⟨_,rfl,rfl⟩
  |9,_=>exact⟨_,rfl,rfl⟩
 ·rcases mkFT_get _ _ u v h with h1|h1
  ·simp only[List.mem_cons,List.mem_nil_iff,or_false,Prod.mk.injEq]at h1
   rcases h1 with⟨rfl,rfl⟩|⟨rfl,rfl⟩|⟨rfl,rfl⟩|⟨rfl,rfl⟩|⟨rfl,rfl⟩
   ·exact .inr rfl
   ·exact .inr rfl
   ·exact .inl ⟨rfl,rfl⟩
   ·exact .inr rfl
   ·exact .inr rfl
  ·cases h1
 ·refine Seen.trans (Seen.void 1 (encL ([]:List St))) ?_
  refine Seen.trans (Seen.objs (l2:=[some (pkO l.length c n),some (rowO .look l),some (.cells (msC 0 0 (.slice none 0 0) (.slice none 0 0)) true 0),none,some (.cells (msC 1 id (.slice (some ⟨6,0,some 0⟩) 0 1) (.slice none 0 0)) true 0),some (.row .mine 1 0 10 (encL ptsL)),some (.row .mine 1 0 0 (encL ([]:List St)))]) rfl fun q o2 h=> ?_) (Seen.canon (E:=2) (slots:=slA1) hβ (fun K=>by kernel_rfl))
  match q,h with
  |0,h=>cases h;exact⟨_,rfl,rfl,fun _ _ _ h=>h⟩
  |1,h=>cases h;exact⟨_,rfl,rfl,fun _ _ _ h=>h⟩
  |2,h=>cases h;exact⟨_,rfl,rfl,fun _ _ _ h=>h⟩
  |3,h=>cases h
  |4,h=>cases h;exact⟨_,rfl,rfl,fun _ _ _ h=>ObjR.nilCell (j:=10) (k:=6) rfl h⟩
  |5,h=>cases h;exact⟨_,rfl,rfl,fun _ _ _ h=>h⟩
  |6,h=>cases h;exact⟨_,rfl,rfl,fun _ _ _ h=>h⟩
  |_+7,h=>cases h
theorem agM_{l:List U8}{c:Nat}{id:Int}{β:Bs}{n:Int}{r:Nat}:Seen β (mkF 102 [(0,.pointer (some ⟨0,0,none⟩)),(4,.pointer (some ⟨2,0,none⟩)),(6,.pointer (some ⟨3,0,none⟩)),(8,.int .i64 (r:Nat))])
  (mkS [some (pkO l.length c n),some (rowO .look l),some (.cells (msC 0 0 (.slice none 0 0) (.slice none 0 0)) true 0),some (.cells (msC 2 id (.slice none 0 0) (.slice none 0 0)) true 0)]) (FA2 (r:Nat)) (SA2 l c id n [] 1 [] 1):=by
 refine Seen.trans (Seen.void 1 (encL ([]:List St))) (Seen.trans (Seen.void 3 (encL ([]:List Vl))) (Seen.objs rfl fun q o2 h=> ?_))
 match q,h with
 |0,h=>cases h;exact⟨_,rfl,rfl,fun _ _ _ h=>h⟩
 |1,h=>cases h;exact⟨_,rfl,rfl,fun _ _ _ h=>h⟩
 |2,h=>cases h;exact⟨_,rfl,rfl,fun _ _ _ h=>h⟩
 |3,h=>cases h;exact⟨_,rfl,rfl,fun _ _ _ h=>ObjR.nilCell (j:=11) (k:=5) rfl (ObjR.nilCell (j:=10) (k:=4) rfl h)⟩
 |4,h=>cases h;exact⟨_,rfl,rfl,fun _ _ _ h=>h⟩
 |5,h=>cases h;exact⟨_,rfl,rfl,fun _ _ _ h=>h⟩
 |_+6,h=>cases h
end Go.Proofs.YtachglcffimmeaaGreat.Ev
