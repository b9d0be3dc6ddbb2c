/-
  What has to hold: printed by the evaluator.
-/
import Derived.Test.YtachglcffimmeaaGreatR28
set_option linter.unusedVariables false
set_option maxRecDepth 1000000
set_option linter.unusedSimpArgs false
namespace Go.Proofs.YtachglcffimmeaaGreat.Ev
open Go Go.Proofs Go.RowKit
theorem apc_(v:Vl)(β:Bs)(K:AE→List (Option AObj)→Prop):lawE Tryz.prog toldR2 100 20 β (fun _=>0) (cnOf 0 fun _=>[]) (fun _ _=>False) 101 [.agg ⟨[.int .i64 v.k,.int .i64 v.i,.float .f64 v.f]⟩] (mkS []) (outC 0 K)=
 (fun(z0:Prop) (z1:Ieee.Format)=>(br (Vl.k v==(5:Int)) (K (.returned (.bool (Vl.i v==(0:Int)))) []) (br (Ieee.Format.order z1 (Vl.f v) 0==some Ordering.eq) (br (!Ieee.Format.order z1 (ariR FloatKind.f64 BinOp.quo 4607182418800017408 (Vl.f v)) 0==some Ordering.gt) z0 (br (Vl.k v==(1:Int)) (br (Vl.i v==(0:Int)) (K (.returned (.bool true)) []) (K (.returned (.bool (Vl.i v==(1:Int)))) [])) (br (Vl.k v==(2:Int)) (K (.returned (.bool (Vl.i v==IntKind.wrap .i64 (IntKind.wrap .i16 (Vl.i v))))) []) (br (Vl.k v==(3:Int)) (K (.returned (.bool (Vl.i v==IntKind.wrap .i64 (IntKind.wrap .i32 (Vl.i v))))) []) (K (.returned (.bool (Vl.k v==(4:Int)))) []))))) z0))) (K (.returned (.bool false)) []) (FloatKind.format FloatKind.f64):=by kernel_rfl
def i0_(v:Vl):Bool:=(cond (Vl.k v==(5:Int)) ((Vl.i v==(0:Int))) (cond (Ieee.Format.order (FloatKind.format FloatKind.f64) (Vl.f v) 0==some Ordering.eq) (cond (!Ieee.Format.order (FloatKind.format FloatKind.f64) (ariR FloatKind.f64 BinOp.quo 4607182418800017408 (Vl.f v)) 0==some Ordering.gt) false (cond (Vl.k v==(1:Int)) (cond (Vl.i v==(0:Int)) true ((Vl.i v==(1:Int)))) (cond (Vl.k v==(2:Int)) ((Vl.i v==IntKind.wrap IntKind.i64 (IntKind.wrap IntKind.i16 (Vl.i v)))) (cond (Vl.k v==(3:Int)) ((Vl.i v==IntKind.wrap IntKind.i64 (IntKind.wrap IntKind.i32 (Vl.i v)))) ((Vl.k v==(4:Int))))))) false))
theorem akq_:c5_ Tryz.prog 101 (okA1 (Sc Vl) fun _=>true) (g9_ (Sc Vl) fun v=>bAns (i0_ v.x)):=by
 refine l0_ follows fun r _ _=>⟨toldR2,100,20,fun _=>0,fun _=>[],fun _ _=>False,toldR2_ok,fun β hβ=> ?_⟩
 obtain⟨v⟩:=r
 show lawE Tryz.prog toldR2 100 20 β (fun _=>0) (cnOf 0 fun _=>[]) (fun _ _=>False) 101 [.agg ⟨[.int .i64 v.k,.int .i64 v.i,.float .f64 v.f]⟩] (mkS []) (outC 0 fun r q=> ∃m2,a6_ q m2∧ansE (bAns (i0_ v)) r (mkS m2))
 refine(apc_ v β _).mpr ?_
 try dsimp only
 repeat' (refine a0_ (fun _=> ?_) (fun _=> ?_))
 all_goals exact bL_ (by simp only[i0_, *,cond_true,cond_false])
def toldR3:Told:=toldR2.tree 101 (okA1 (Sc Vl) fun _=>true) (g9_ (Sc Vl) fun v=>bAns (i0_ v.x))
theorem toldR3_ok:a8_ Tryz.prog toldR3:=Told.tree_ok toldR2_ok akq_
def fstN(p:Nat→Bool):Nat→Nat→Int
 |0,_=> -1
 |n+1,k=>cond (p k) (k:Int) (fstN p n (k+1))
theorem P4_(p:Nat→Bool): ∀(n k:Nat),decide (fstN p n k≥0)=(List.range n).any fun j=>p (k+j)
 |0,k=>rfl
 |n+1,k=>by
  rw[List.range_succ_eq_map,List.any_cons,List.any_map]
  simp only[Nat.add_zero]
  cases hq:p k with
  |true=>
   have:fstN p (n+1) k=(k:Int):=by unfold fstN;rw[hq];rfl
   rw[this];simp
  |false=>
   have:fstN p (n+1) k=fstN p n (k+1):=by rw[fstN.eq_def];simp only[hq,cond_false]
   rw[this,Bool.false_or,P4_ p n (k+1)]
   congr 1
   funext j
   show _=p (k+(j+1))
   rw[show k+1+j=k+(j+1)by omega]
theorem X1_{P:Program}{β:Bs}{ex:Nat→Kt→Prop}{b:Nat}{c:Code}{N:Nat}{F:Nat→AFr}{S:ASt}{Fr:Int→AFr}{Sr:ASt}{p:Nat→Bool}
  (hex: ∀K,ex b K→(fstN p N 0= -1→K (.exit b) (F N) S)∧(∀k:Nat,k<N→fstN p N 0=(k:Int)→K .ret (Fr (k:Int)) Sr))
  (hr: ∀(k:Nat) (Nx:Kt),k≤N→(k<N→p k=true→Nx .ret (Fr (k:Int)) Sr)→(k<N→p k=false→Nx .normal (F (k+1)) S)→(k=N→Nx (.exit b) (F N) S)→J P β c (F k) S Nx):LoopJ P β ex b c (F 0) S:=by
 refine b2_ (fun k:Nat=>k≤N∧fstN p N 0=fstN p (N-k) k) F (fun _=>S) (fun k=>N-k) (fun k hI K hK=> ?_) 0 ⟨Nat.zero_le _,rfl⟩
 obtain⟨hK1,hK2⟩:=hex K hK
 obtain⟨hk,hI⟩:=hI
 have step:k<N→N-k=(N-(k+1))+1:=fun h=>by omega
 refine hr k _ hk (fun hlt hp=> .inr ⟨by simp,by simp,Fr (k:Int),Sr,Seen.refl _ _ _,hK2 k hlt ?_⟩) (fun hlt hp=> .inl ⟨rfl,k+1,⟨hlt,?_⟩,by omega,Seen.refl _ _ _⟩) (fun he=> .inr ⟨by simp,by simp,F N,S,Seen.refl _ _ _,hK1 ?_⟩)
 ·rw[hI,step hlt];unfold fstN;rw[hp];rfl
 ·rw[hI,step hlt,fstN.eq_def];simp only[hp,cond_false]
 ·rw[hI,he,Nat.sub_self];rfl
structure Fn (g:Nat) where
instance {g:Nat}:ArgE (Fn g) where
 okA t:=match t with
  | .cell (.sc (.func (.func h) ⟨[]⟩ ⟨[]⟩))=>Nat.beq h g
  |_=>false
 get _:=⟨⟩
 ta _:= .cell (.sc (.func (.func g) ⟨[]⟩ ⟨[]⟩))
 good _:=True
 law t h:=by
  split at h
  ·have:=Nat.eq_of_beq_eq_true h
   subst this
   exact⟨trivial,fun w F y hy=>hy⟩
  ·cases h
def slIx:List Nat:=[0,1,7,8]
def lvIx:AX→List Nat:=fun x=>match x with
 | .ret=>[4]
 |_=>slIx
def fnS:Value:= .func (.func 98) #[] #[]
def fnV:Value:= .func (.func 100) #[] #[]
def FIs(l:List St)(c:Nat)(i:Int):AFr:=mkF 19 [(0,.slice (some ⟨0,0,some 0⟩) l.length c),(1,fnS),(7,.int .i64 (Int.ofNat l.length)),(8,.int .i64 i)]
def FIv(l:List Vl)(c:Nat)(i:Int):AFr:=mkF 19 [(0,.slice (some ⟨0,0,some 0⟩) l.length c),(1,fnV),(7,.int .i64 (Int.ofNat l.length)),(8,.int .i64 i)]
def FIr(n:Int):AFr:=mkF 19 [(4,.int .i64 n)]
def badP(s:St):Bool:=decide (Int.ofNat s.s.size<1)||decide (Int.ofNat s.s.size>20)
def badV(v:Vl):Bool:= !(i0_ v)
def exIs(l:List St)(c:Nat):Nat→Kt→Prop:=fun b K=>(fstN (fun i=>badP (l.getD i Enc.dflt)) l.length 0= -1→K (.exit b) (FIs l c l.length) (mkS [some (rowO .look l)]))∧(∀k:Nat,k<l.length→fstN (fun i=>badP (l.getD i Enc.dflt)) l.length 0=(k:Int)→K .ret (FIr (k:Int)) (mkS [some (rowO .look l)]))
def exIv(l:List Vl)(c:Nat):Nat→Kt→Prop:=fun b K=>(fstN (fun i=>badV (l.getD i Enc.dflt)) l.length 0= -1→K (.exit b) (FIv l c l.length) (mkS [some (rowO .look l)]))∧(∀k:Nat,k<l.length→fstN (fun i=>badV (l.getD i Enc.dflt)) l.length 0=(k:Int)→K .ret (FIr (k:Int)) (mkS [some (rowO .look l)]))
theorem apx_(l:List St)(c:Nat)(β:Bs)(K:AE→List (Option AObj)→Prop):lawE Tryz.prog toldR3 100 20 β (fun _=>0) (cnOf 1 fun _=>slIx) (exIs l c) 110 [.slice (some ⟨0,0,some 0⟩) l.length c,fnS] (mkS [some (rowO .look l)]) (outC 1 K)=
 (fun(z1:Nat)=>((fun(z0:AObj)=>(LoopJ Tryz.prog β (exIs l c) 0 (a5_ Tryz.prog 110 0) (mkF 19 [(0,.slice (some ⟨0,0,some 0⟩) z1 c),(1,Value.func (Fn.func 98) (Array.mk []) (Array.mk [])),(7,.int .i64 (Int.ofNat z1)),(8,.int .i64 (0:Int))]) (mkS [some z0])∧(fstN (fun i=>badP (List.getD l i Enc.dflt)) z1 0=(-1:Int)→K (.returned (.int .i64 (-1:Int))) [some z0])∧ ∀(k:Nat),k<List.length l→fstN (fun i=>badP (List.getD l i Enc.dflt)) z1 0= ↑k→K (.returned (.int .i64 (Int.ofNat k))) [some z0])) (.row .look 1 0 z1 (encL l)))) l.length:=by kernel_rfl
theorem akI_(l:List St)(c:Nat)(i:Int)(β:Bs)(Nx:Kt):c0_ Tryz.prog toldR3 100 20 β (fun _=>0) (cnOf 1 fun _=>slIx) (fun _ _=>False) 110 0 1 lvIx (FIs l c i) (mkS [some (rowO .look l)]) Nx=
 (fun(z1 z3:Nat)=>((fun(z0:ASt) (z4:St)=>((fun(z2:Prop)=>(br (decide (i<Int.ofNat z1)) (need (decide ((0:Int)≤i)) (need (Nat.blt (Int.toNat i) z1) (need (Nat.ble 0 z3&&Nat.blt z3 z1) (br (decide (Int.ofNat (ByteArray.size (St.s z4))<(1:Int))) z2 (br (decide (Int.ofNat (ByteArray.size (St.s z4))>(20:Int))) z2 (Nx .normal (mkF 19 [(0,.slice (some ⟨0,0,some 0⟩) z1 c),(1,Value.func (Fn.func 98) (Array.mk []) (Array.mk [])),(7,.int .i64 (Int.ofNat z1)),(8,.int .i64 (IntKind.wrap .i64 (i+(1:Int))))]) z0)))))) (Nx (.exit 0) (mkF 19 [(0,.slice (some ⟨0,0,some 0⟩) z1 c),(1,Value.func (Fn.func 98) (Array.mk []) (Array.mk [])),(7,.int .i64 (Int.ofNat z1)),(8,.int .i64 i)]) z0))) (Nx .ret (mkF 19 [(4,.int .i64 i)]) z0))) (mkS [some (.row .look 1 0 z1 (encL l))]) (List.getD l z3 Enc.dflt))) l.length (0+Int.toNat i):=by kernel_rfl
theorem apw_(l:List Vl)(c:Nat)(β:Bs)(K:AE→List (Option AObj)→Prop):lawE Tryz.prog toldR3 100 20 β (fun _=>0) (cnOf 1 fun _=>slIx) (exIv l c) 111 [.slice (some ⟨0,0,some 0⟩) l.length c,fnV] (mkS [some (rowO .look l)]) (outC 1 K)=
 (fun(z1:Nat)=>((fun(z0:AObj)=>(LoopJ Tryz.prog β (exIv l c) 0 (a5_ Tryz.prog 111 0) (mkF 19 [(0,.slice (some ⟨0,0,some 0⟩) z1 c),(1,Value.func (Fn.func 100) (Array.mk []) (Array.mk [])),(7,.int .i64 (Int.ofNat z1)),(8,.int .i64 (0:Int))]) (mkS [some z0])∧(fstN (fun i=>badV (List.getD l i Enc.dflt)) z1 0=(-1:Int)→K (.returned (.int .i64 (-1:Int))) [some z0])∧ ∀(k:Nat),k<List.length l→fstN (fun i=>badV (List.getD l i Enc.dflt)) z1 0= ↑k→K (.returned (.int .i64 (Int.ofNat k))) [some z0])) (.row .look 3 0 z1 (encL l)))) l.length:=by kernel_rfl
theorem akH_(l:List Vl)(c:Nat)(i:Int)(β:Bs)(Nx:Kt):c0_ Tryz.prog toldR3 100 20 β (fun _=>0) (cnOf 1 fun _=>slIx) (fun _ _=>False) 111 0 1 lvIx (FIv l c i) (mkS [some (rowO .look l)]) Nx=
 (fun(z1 z3:Nat)=>((fun(z0:ASt) (z2:Vl)=>(br (decide (i<Int.ofNat z1)) (need (decide ((0:Int)≤i)) (need (Nat.blt (Int.toNat i) z1) (need (Nat.ble 0 z3&&Nat.blt z3 z1) (br (!i0_ (Enc.dec (nthT [.sc (.int .i64 (Vl.k z2)),.sc (.int .i64 (Vl.i z2)),.sc (.float .f64 (Vl.f z2))]))) (Nx .ret (mkF 19 [(4,.int .i64 i)]) z0) (Nx .normal (mkF 19 [(0,.slice (some ⟨0,0,some 0⟩) z1 c),(1,Value.func (Fn.func 100) (Array.mk []) (Array.mk [])),(7,.int .i64 (Int.ofNat z1)),(8,.int .i64 (IntKind.wrap .i64 (i+(1:Int))))]) z0))))) (Nx (.exit 0) (mkF 19 [(0,.slice (some ⟨0,0,some 0⟩) z1 c),(1,Value.func (Fn.func 100) (Array.mk []) (Array.mk [])),(7,.int .i64 (Int.ofNat z1)),(8,.int .i64 i)]) z0))) (mkS [some (.row .look 3 0 z1 (encL l))]) (List.getD l z3 Enc.dflt))) l.length (0+Int.toNat i):=by kernel_rfl
def ansI(n:Int):Ans:= .ret (.cell (.sc (.int .i64 n)))
theorem abW_{n:Int}{m:List (Option AObj)}{c:Int}(h:c=n): ∃m2,a6_ m m2∧ansE (ansI n) (.returned (.int .i64 c)) (mkS m2):=by
 subst h
 exact⟨m,a6_.refl _,[],⟨rfl,rfl,rfl⟩,List.nodup_nil⟩
theorem amm_{l:List St}{c:Nat}{β:Bs}(hβ:β.X.length=1)(hl:l.length≤1000000):LoopJ Tryz.prog β (exIs l c) 0 (a5_ Tryz.prog 110 0) (FIs l c (0:Nat)) (mkS [some (rowO .look l)]):=by
 refine X1_ (N:=l.length) (F:=fun k=>FIs l c (k:Nat)) (S:=mkS [some (rowO .look l)]) (Fr:=FIr) (Sr:=mkS [some (rowO .look l)]) (p:=fun i=>badP (l.getD i Enc.dflt)) (fun K hK=>hK) (fun k Nx hk h1 h2 h3=> ?_)
 refine rJ_ (E:=1) (lvs:=fun _=>slIx) (un:=fun _=>0) (fuel:=100) (n:=20) (ex:=fun _ _=>False) follows toldR3_ok hβ (lv:=lvIx) ?_
 rw[akI_]
 try dsimp only
 have e0:Int.toNat (k:Int)=k:=Int.toNat_natCast k
 simp only[e0,Nat.zero_add]
 refine a0_ (fun hlt=> ?_) (fun hlt=> ?_)
 ·have hlt:k<l.length:=by simpa using hlt
  have hw:IntKind.wrap .i64 ((k:Int)+1)=((k+1:Nat):Int):=w64 (by omega) (by omega)
  have c3:Nat.blt k l.length=true:=by simpa using hlt
  rw[hw]
  refine nd_ (by simp) (nd_ c3 (nd_ (by rw[c3];rfl) (a0_ (fun q1=>h1 hlt ?_) (fun q1=>a0_ (fun q2=>h1 hlt ?_) (fun q2=>h2 hlt ?_)))))
  ·unfold badP;rw[q1];rfl
  ·unfold badP;rw[q2,Bool.or_true]
  ·unfold badP;rw[q1,q2];rfl
 ·have hge: ¬k<l.length:=by simpa using hlt
  have hkn:k=l.length:=by omega
  subst hkn
  exact h3 rfl
theorem aml_:c5_ Tryz.prog 110 (okA2 (Rw St) (Fn 98) fun _ _=>true) (t0_ (Rw St) (Fn 98) fun l _=>ansI (fstN (fun i=>badP (l.l.getD i Enc.dflt)) l.l.length 0)):=by
 refine D4_ follows fun r _ hr _ _=>⟨toldR3,100,20,fun _=>0,fun _=>slIx,exIs r.l r.c,toldR3_ok,fun β hβ=> ?_⟩
 obtain⟨l,c⟩:=r
 obtain⟨g1,g2,g3⟩:=hr
 show lawE Tryz.prog toldR3 100 20 β (fun _=>0) (cnOf 1 fun _=>slIx) (exIs l c) 110 [.slice (some ⟨0,0,some 0⟩) l.length c,fnS] (mkS [some (rowO .look l)]) (outC 1 fun r q=> ∃m2,a6_ q m2∧ansE (ansI (fstN (fun i=>badP (l.getD i Enc.dflt)) l.length 0)) r (mkS m2))
 refine(apx_ l c β _).mpr ?_
 exact⟨amm_ hβ g2,fun h=>abW_ h.symm,fun k _ h=>abW_ h.symm⟩
theorem amk_{l:List Vl}{c:Nat}{β:Bs}(hβ:β.X.length=1)(hl:l.length≤1000000):LoopJ Tryz.prog β (exIv l c) 0 (a5_ Tryz.prog 111 0) (FIv l c (0:Nat)) (mkS [some (rowO .look l)]):=by
 refine X1_ (N:=l.length) (F:=fun k=>FIv l c (k:Nat)) (S:=mkS [some (rowO .look l)]) (Fr:=FIr) (Sr:=mkS [some (rowO .look l)]) (p:=fun i=>badV (l.getD i Enc.dflt)) (fun K hK=>hK) (fun k Nx hk h1 h2 h3=> ?_)
 refine rJ_ (E:=1) (lvs:=fun _=>slIx) (un:=fun _=>0) (fuel:=100) (n:=20) (ex:=fun _ _=>False) follows toldR3_ok hβ (lv:=lvIx) ?_
 rw[akH_]
 try dsimp only
 have e0:Int.toNat (k:Int)=k:=Int.toNat_natCast k
 simp only[e0,Nat.zero_add]
 refine a0_ (fun hlt=> ?_) (fun hlt=> ?_)
 ·have hlt:k<l.length:=by simpa using hlt
  have hw:IntKind.wrap .i64 ((k:Int)+1)=((k+1:Nat):Int):=w64 (by omega) (by omega)
  have c3:Nat.blt k l.length=true:=by simpa using hlt
  rw[hw]
  refine nd_ (by simp) (nd_ c3 (nd_ (by rw[c3];rfl) (a0_ (fun q1=>h1 hlt ?_) (fun q1=>h2 hlt ?_))))
  ·have q1:(!i0_ (Enc.dec (nthT (b1_ (l.getD k Enc.dflt)))))=true:=q1
   rw[(dE_ _).1]at q1
   exact q1
  ·have q1:(!i0_ (Enc.dec (nthT (b1_ (l.getD k Enc.dflt)))))=false:=q1
   rw[(dE_ _).1]at q1
   exact q1
 ·have hge: ¬k<l.length:=by simpa using hlt
  have hkn:k=l.length:=by omega
  subst hkn
  exact h3 rfl
theorem amj_:c5_ Tryz.prog 111 (okA2 (Rw Vl) (Fn 100) fun _ _=>true) (t0_ (Rw Vl) (Fn 100) fun l _=>ansI (fstN (fun i=>badV (l.l.getD i Enc.dflt)) l.l.length 0)):=by
 refine D4_ follows fun r _ hr _ _=>⟨toldR3,100,20,fun _=>0,fun _=>slIx,exIv r.l r.c,toldR3_ok,fun β hβ=> ?_⟩
 obtain⟨l,c⟩:=r
 obtain⟨g1,g2,g3⟩:=hr
 show lawE Tryz.prog toldR3 100 20 β (fun _=>0) (cnOf 1 fun _=>slIx) (exIv l c) 111 [.slice (some ⟨0,0,some 0⟩) l.length c,fnV] (mkS [some (rowO .look l)]) (outC 1 fun r q=> ∃m2,a6_ q m2∧ansE (ansI (fstN (fun i=>badV (l.getD i Enc.dflt)) l.length 0)) r (mkS m2))
 refine(apw_ l c β _).mpr ?_
 exact⟨amk_ hβ g2,fun h=>abW_ h.symm,fun k _ h=>abW_ h.symm⟩
def toldR4:Told:=(toldR3.tree 110 (okA2 (Rw St) (Fn 98) fun _ _=>true) (t0_ (Rw St) (Fn 98) fun l _=>ansI (fstN (fun i=>badP (l.l.getD i Enc.dflt)) l.l.length 0))).tree 111 (okA2 (Rw Vl) (Fn 100) fun _ _=>true) (t0_ (Rw Vl) (Fn 100) fun l _=>ansI (fstN (fun i=>badV (l.l.getD i Enc.dflt)) l.l.length 0))
theorem toldR4_ok:a8_ Tryz.prog toldR4:=Told.tree_ok (Told.tree_ok toldR3_ok aml_) amj_
theorem apq_(v:Vl)(β:Bs)(K:AE→List (Option AObj)→Prop):lawE Tryz.prog toldR4 100 20 β (fun _=>0) (cnOf 0 fun _=>[]) (fun _ _=>False) 75 [.agg ⟨[.int .i64 v.k,.int .i64 v.i,.float .f64 v.f]⟩] (mkS []) (outC 0 K)=
 (br (Vl.k v==(0:Int)) (br (Vl.i v==(0:Int)) (K (.returned (.bool (Int.ofNat (bitsN (Vl.f v))==(0:Int)))) []) (K (.returned (.bool false)) [])) (K (.returned (.bool false)) [])):=by kernel_rfl
theorem apt_(b:Bool)(β:Bs)(K:AE→List (Option AObj)→Prop):lawE Tryz.prog toldR4 100 20 β (fun _=>0) (cnOf 0 fun _=>[]) (fun _ _=>False) 74 [.bool b] (mkS []) (outC 0 K)=
 (br b (K (.returned (.int .u8 (1:Int))) []) (K (.returned (.int .u8 (0:Int))) [])):=by kernel_rfl
structure HdP (p:Prop):Prop where
 h:p
theorem LawC.of{P:Program}{g:FuncId}{ts:List Ta}{a:Ans}(C:Told)(fuel n:Nat)(un:Nat→Nat)(lvs:Nat→List Nat)(ex:Nat→Kt→Prop)(hC:a8_ P C)(h: ∀β:Bs,β.X.length=(layA ts 0).2.length→HdP (lawE P C fuel n β un (cnOf (layA ts 0).2.length lvs) ex g (layA ts 0).1 (mkS ((layA ts 0).2.map some)) (outA (layA ts 0).2.length a))):LawC P g ts a:=⟨C,fuel,n,un,lvs,ex,hC,fun β hβ=>(h β hβ).h⟩
def zQ(v:Vl):Bool:=cond (v.k==0) (cond (v.i==0) (Int.ofNat (bitsN v.f)==0) false) false
theorem alM_:c5_ Tryz.prog 75 (okA1 (Sc Vl) fun _=>true) (g9_ (Sc Vl) fun v=>bAns (zQ v.x)):=by
 refine l0_ follows fun r _ _=>⟨toldR4,100,20,fun _=>0,fun _=>[],fun _ _=>False,toldR4_ok,fun β hβ=> ?_⟩
 obtain⟨v⟩:=r
 show lawE Tryz.prog toldR4 100 20 β (fun _=>0) (cnOf 0 fun _=>[]) (fun _ _=>False) 75 [.agg ⟨[.int .i64 v.k,.int .i64 v.i,.float .f64 v.f]⟩] (mkS []) (outC 0 fun r q=> ∃m2,a6_ q m2∧ansE (bAns (zQ v)) r (mkS m2))
 refine(apq_ v β _).mpr ?_
 refine a0_ (fun h1=>a0_ (fun h2=>bL_ ?_) (fun h2=>bL_ ?_)) (fun h1=>bL_ ?_)
 ·unfold zQ;rw[h1,h2];rfl
 ·unfold zQ;rw[h1,h2];rfl
 ·unfold zQ;rw[h1];rfl
theorem alP_:c5_ Tryz.prog 74 (okA1 Bool fun _=>true) (g9_ Bool fun b=> .ret (.cell (.sc (.int .u8 (cond b 1 0))))):=by
 refine l0_ follows fun b _ _=>⟨toldR4,100,20,fun _=>0,fun _=>[],fun _ _=>False,toldR4_ok,fun β hβ=> ?_⟩
 show lawE Tryz.prog toldR4 100 20 β (fun _=>0) (cnOf 0 fun _=>[]) (fun _ _=>False) 74 [.bool b] (mkS []) (outC 0 fun r q=> ∃m2,a6_ q m2∧ansE (.ret (.cell (.sc (.int .u8 (cond b 1 0))))) r (mkS m2))
 refine(apt_ b β _).mpr ?_
 refine a0_ (fun h=> ?_) (fun h=> ?_)
 ·subst h;exact⟨_,a6_.refl _,[],⟨rfl,rfl,rfl⟩,List.nodup_nil⟩
 ·subst h;exact⟨_,a6_.refl _,[],⟨rfl,rfl,rfl⟩,List.nodup_nil⟩
def S0_:Told:=(toldR4.tree 75 (okA1 (Sc Vl) fun _=>true) (g9_ (Sc Vl) fun v=>bAns (zQ v.x))).tree 74 (okA1 Bool fun _=>true) (g9_ Bool fun b=> .ret (.cell (.sc (.int .u8 (cond b 1 0)))))
theorem R9_:a8_ Tryz.prog S0_:=Told.tree_ok (Told.tree_ok toldR4_ok alM_) alP_
theorem apr_(m:Ms)(β:Bs)(K:AE→List (Option AObj)→Prop):lawE Tryz.prog S0_ 100 20 β (fun _=>0) (cnOf 2 fun _=>[]) (fun _ _=>False) 72 [amV m 0 1] (mkS [some (rowO .look m.ps),some (rowO .look m.vs)]) (outC 2 K)=
 (fun(z2:Vl) (z5 z8:Nat) (z9 z10 z11:Bool)=>((fun(z3:List (Option AObj)) (z6 z7:Td) (z14:Bool)=>((fun(z1:Prop)=>((fun(z0:Prop)=>((fun(z12 z13:Prop)=>((fun(z4:Prop)=>(br (Ms.k m==(1:Int)) (br (Ms.n m==(0:Int)) (br z9 (br z10 (br (!Ms.lo m) (br z11 (br (zQ z2) z12 z1) z1) z1) z1) z1) z1) (br (Ms.k m==(2:Int)) (br (Ms.n m==(0:Int)) (br z9 (br z10 z13 z1) z1) z1) (br (Ms.k m==(3:Int)) z4 (br (Ms.k m==(4:Int)) (br z9 (br z10 (br (!Ms.lo m) z12 z1) z1) z1) (br (Ms.k m==(5:Int)) z4 (br (Ms.k m==(6:Int)) (br z9 z13 z1) (br (Ms.k m==(7:Int)) (br (Ms.id m==(0:Int)) (br z10 (br z11 (br (zQ z2) (br z14 z0 z1) z1) z1) z1) z1) z1)))))))) (br z9 (br z10 (br (!Ms.lo m) (br z11 (br (zQ z2) (br z14 z12 z1) z1) z1) z1) z1) z1))) (br (!Int.ofNat z5==(0:Int)) z1 z0) (br (!Ms.lo m) (br z11 (br (zQ z2) z0 z1) z1) z1))) (br (decide (Ms.id m≥(0:Int))) (br (!decide (Ms.id m≤(65535:Int))) z1 (br (decide (Ms.n m≥(0:Int))) (br (!decide (Ms.n m≤(65535:Int))) z1 (br (decide (Ms.sq m≥(0:Int))) (br (!decide (Ms.sq m≤(65535:Int))) z1 (br (decide (Ms.ev m≥(0:Int))) (br (!decide (Ms.ev m≤(1125899906842624:Int))) z1 (br (decide (Ms.er m≥(0:Int))) (br (!decide (Ms.er m≤(13:Int))) z1 (br (decide (Int.ofNat z8>(5:Int))) z1 (need (true&&Nat.ble (0+List.length (Ms.ps m)) z8) (need (okA2 (Rw St) (Fn 98) (fun x x_1=>true) [Ta.cell z6,Ta.cell (.sc (Value.func (Fn.func 98) #[] #[]))]) (br (decide (fstN (fun i=>badP (List.getD (a4_ St z6) i Enc.dflt)) (List.length (a4_ St z6)) 0≥(0:Int))) z1 (br (decide (Int.ofNat z5>(5:Int))) z1 (need (true&&Nat.ble (0+List.length (Ms.vs m)) z5) (need (okA2 (Rw Vl) (Fn 100) (fun x x_1=>true) [Ta.cell z7,Ta.cell (.sc (Value.func (Fn.func 100) #[] #[]))]) (br (decide (fstN (fun i=>badV (List.getD (a4_ Vl z7) i Enc.dflt)) (List.length (a4_ Vl z7)) 0≥(0:Int))) z1 (br (zQ z2) (K (.returned (.bool true)) z3) (K (.returned (.bool (i0_ z2))) z3))))))))))) z1)) z1)) z1)) z1)) z1))) (K (.returned (.bool false)) z3))) [some (.row .look 1 0 z8 (encL (Ms.ps m))),some (.row .look 3 0 z5 (encL (Ms.vs m)))] (.fr 1 z8 (Ms.cps m) fun i=>encL (Ms.ps m) (0+i)) (.fr 3 z5 (Ms.cvs m) fun i=>encL (Ms.vs m) (0+i)) (Int.ofNat z8==(0:Int)))) (Enc.dec (nthT [.sc (.int .i64 (Vl.k (Ms.bd m))),.sc (.int .i64 (Vl.i (Ms.bd m))),.sc (.float .f64 (Vl.f (Ms.bd m)))])) (List.length (Ms.vs m)) (List.length (Ms.ps m)) (Ms.sq m==(0:Int)) (Ms.er m==(0:Int)) (Ms.ev m==(0:Int)):=by kernel_rfl
def anyP(m:Ms):Bool:=decide (fstN (fun i=>badP (m.ps.getD i Enc.dflt)) m.ps.length 0≥0)
def anyV(m:Ms):Bool:=decide (fstN (fun i=>badV (m.vs.getD i Enc.dflt)) m.vs.length 0≥0)
def tlQ(m:Ms):Bool:=(cond (decide (Ms.id m≥(0:Int))) (cond (!decide (Ms.id m≤(65535:Int))) false (cond (decide (Ms.n m≥(0:Int))) (cond (!decide (Ms.n m≤(65535:Int))) false (cond (decide (Ms.sq m≥(0:Int))) (cond (!decide (Ms.sq m≤(65535:Int))) false (cond (decide (Ms.ev m≥(0:Int))) (cond (!decide (Ms.ev m≤(1125899906842624:Int))) false (cond (decide (Ms.er m≥(0:Int))) (cond (!decide (Ms.er m≤(13:Int))) false (cond (decide (Int.ofNat (List.length (Ms.ps m))>(5:Int))) false (cond (anyP m) false (cond (decide (Int.ofNat (List.length (Ms.vs m))>(5:Int))) false (cond (anyV m) false (cond (zQ (Ms.bd m)) true ((i0_ (Ms.bd m))))))))) false)) false)) false)) false)) false)
def mayQ(m:Ms):Bool:=(cond (Ms.k m==(1:Int)) (cond (Ms.n m==(0:Int)) (cond (Ms.sq m==(0:Int)) (cond (Ms.er m==(0:Int)) (cond (!Ms.lo m) (cond (Ms.ev m==(0:Int)) (cond (zQ (Ms.bd m)) (cond (!Int.ofNat (List.length (Ms.vs m))==(0:Int)) false (tlQ m)) false) false) false) false) false) false) (cond (Ms.k m==(2:Int)) (cond (Ms.n m==(0:Int)) (cond (Ms.sq m==(0:Int)) (cond (Ms.er m==(0:Int)) (cond (!Ms.lo m) (cond (Ms.ev m==(0:Int)) (cond (zQ (Ms.bd m)) (tlQ m) false) false) false) false) false) false) (cond (Ms.k m==(3:Int)) (cond (Ms.sq m==(0:Int)) (cond (Ms.er m==(0:Int)) (cond (!Ms.lo m) (cond (Ms.ev m==(0:Int)) (cond (zQ (Ms.bd m)) (cond (Int.ofNat (List.length (Ms.ps m))==(0:Int)) (cond (!Int.ofNat (List.length (Ms.vs m))==(0:Int)) false (tlQ m)) false) false) false) false) false) false) (cond (Ms.k m==(4:Int)) (cond (Ms.sq m==(0:Int)) (cond (Ms.er m==(0:Int)) (cond (!Ms.lo m) (cond (!Int.ofNat (List.length (Ms.vs m))==(0:Int)) false (tlQ m)) false) false) false) (cond (Ms.k m==(5:Int)) (cond (Ms.sq m==(0:Int)) (cond (Ms.er m==(0:Int)) (cond (!Ms.lo m) (cond (Ms.ev m==(0:Int)) (cond (zQ (Ms.bd m)) (cond (Int.ofNat (List.length (Ms.ps m))==(0:Int)) (cond (!Int.ofNat (List.length (Ms.vs m))==(0:Int)) false (tlQ m)) false) false) false) false) false) false) (cond (Ms.k m==(6:Int)) (cond (Ms.sq m==(0:Int)) (cond (!Ms.lo m) (cond (Ms.ev m==(0:Int)) (cond (zQ (Ms.bd m)) (tlQ m) false) false) false) false) (cond (Ms.k m==(7:Int)) (cond (Ms.id m==(0:Int)) (cond (Ms.er m==(0:Int)) (cond (Ms.ev m==(0:Int)) (cond (zQ (Ms.bd m)) (cond (Int.ofNat (List.length (Ms.ps m))==(0:Int)) (tlQ m) false) false) false) false) false) false)))))))
theorem alN_:c5_ Tryz.prog 72 (okA1 (Sc Ms) fun _=>true) (g9_ (Sc Ms) fun m=>bAns (mayQ m.x)):=by
 refine l0_ follows fun r hr _=>LawC.of S0_ 100 20 (fun _=>0) (fun _=>[]) (fun _ _=>False) R9_ fun β hβ=> ?_
 obtain⟨m⟩:=r
 obtain⟨g1,g2,g3,g4,g5,g6⟩:=r1_ hr
 show HdP (lawE Tryz.prog S0_ 100 20 β (fun _=>0) (cnOf 2 fun _=>[]) (fun _ _=>False) 72 [amV m 0 1] (mkS [some (rowO .look m.ps),some (rowO .look m.vs)]) (outC 2 fun r q=> ∃m2,a6_ q m2∧ansE (bAns (mayQ m)) r (mkS m2)))
 refine⟨?_⟩
 rw[apr_]
 try dsimp only
 have z1:a4_ St (Td.fr 1 m.ps.length m.cps fun i=>encL m.ps (0+i))=m.ps:=s4_ _ _
 have z2:a4_ Vl (Td.fr 3 m.vs.length m.cvs fun i=>encL m.vs (0+i))=m.vs:=s4_ _ _
 have n1:(true&&Nat.ble (0+m.ps.length) m.ps.length)=true:=by simp
 have n2:(true&&Nat.ble (0+m.vs.length) m.vs.length)=true:=by simp
 have o1:okA2 (Rw St) (Fn 98) (fun _ _=>true) [.cell (.fr 1 m.ps.length m.cps fun i=>encL m.ps (0+i)),.cell (.sc (.func (.func 98) ⟨[]⟩ ⟨[]⟩))]=true:=by
  rw[encZ]
  show(okT St (tdL m.ps m.cps)&&Nat.beq 98 98 &&true)=true
  rw[d0_ g1 g2 g3,Nat.beq_refl];rfl
 have o2:okA2 (Rw Vl) (Fn 100) (fun _ _=>true) [.cell (.fr 3 m.vs.length m.cvs fun i=>encL m.vs (0+i)),.cell (.sc (.func (.func 100) ⟨[]⟩ ⟨[]⟩))]=true:=by
  rw[encZ]
  show(okT Vl (tdL m.vs m.cvs)&&Nat.beq 100 100 &&true)=true
  rw[d0_ g4 g5 g6,Nat.beq_refl];rfl
 have a1:decide (fstN (fun i=>badP (m.ps.getD i Enc.dflt)) m.ps.length 0≥0)=anyP m:=rfl
 have a2:decide (fstN (fun i=>badV (m.vs.getD i Enc.dflt)) m.vs.length 0≥0)=anyV m:=rfl
 have a3:(Enc.dec (nthT [Td.sc (.int .i64 m.bd.k),Td.sc (.int .i64 m.bd.i),Td.sc (.float .f64 m.bd.f)]):Vl)=m.bd:=rfl
 rw[z1,z2,a1,a2,a3]
 clear z1 z2 a1 a2 a3 g1 g2 g3 g4 g5 g6 hr hβ
 repeat' (first|refine nd_ n1 ?_|refine nd_ n2 ?_|refine nd_ o1 ?_|refine nd_ o2 ?_|refine a0_ (fun _=> ?_) (fun _=> ?_))
 all_goals clear n1 n2 o1 o2
 all_goals first
  |(refine bL_ ?_;simp only[mayQ,tlQ, *,cond_true,cond_false];done)
  |(exfalso;simp_all)
def j9_:Told:=S0_.tree 72 (okA1 (Sc Ms) fun _=>true) (g9_ (Sc Ms) fun m=>bAns (mayQ m.x))
theorem S1_:a8_ Tryz.prog j9_:=Told.tree_ok R9_ alN_
theorem anE_(i:Int)(β:Bs)(K:AE→List (Option AObj)→Prop):lawE Tryz.prog j9_ 100 20 β (fun _=>0) (cnOf 0 fun _=>[]) (fun _ _=>False) 76 [.agg ⟨[.int .i64 1,.int .i64 i,.float .f64 0]⟩] (mkS []) (outC 0 K)=
 (fun(z1 z2:Value) (z3 z4:Nat)=>((fun(z0:Prop)=>(br (i==(0:Int)) z0 (br (!i==(1:Int)) (K (.returned (.slice none 0 0)) []) z0))) (K (.returned (.slice (some ⟨0,0,some 0⟩) 2 0)) [some (.row .mine 1 0 2 fun j k=>mrgT (Nat.blt j 1) (mrgT (Nat.blt (0+j) 0) (nthT [.sc z1] k) (selT 1 1 [.sc z2] (0+j-0) k)) (mrgT (Nat.blt (7+(j-1)) z3) (mrgT (Nat.blt (0+(7+(j-1))) z4) (mrgT (Nat.blt (0+(0+(7+(j-1)))) (0+(1+1)+2)) (mrgT (Nat.blt (0+(0+(0+(7+(j-1))))) (0+(1+1))) (mrgT (Nat.blt (0+(0+(0+(0+(7+(j-1)))))) 0) (nthT [.sc z1] k) (selT 1 (1+1) [.sc z1,.sc z2] (0+(0+(0+(0+(7+(j-1)))))-0) k)) (selT 1 2 [.sc z2,.sc z2] (0+(0+(0+(7+(j-1))))-(0+(1+1))) k)) (selT 1 (1+1) [.sc z1,.sc z1] (0+(0+(7+(j-1)))-(0+(1+1)+2)) k)) (selT 1 1 [.sc z1] (0+(7+(j-1))-z4) k)) (selT 1 1 [.sc (.int .u8 (IntKind.wrap .u8 (Int.fdiv (IntKind.wrap .u64 i) (1:Int))))] (7+(j-1)-z3) k)))]))) (.int .u8 (0:Int)) (.int .u8 (1:Int)) (0+(1+1)+2+(1+1)+1) (0+(1+1)+2+(1+1)):=by kernel_rfl
theorem anD_(i:Int)(β:Bs)(K:AE→List (Option AObj)→Prop):lawE Tryz.prog j9_ 100 20 β (fun _=>0) (cnOf 0 fun _=>[]) (fun _ _=>False) 76 [.agg ⟨[.int .i64 2,.int .i64 i,.float .f64 0]⟩] (mkS []) (outC 0 K)=
 (fun(z0 z2 z3:Value) (z1 z5:Nat) (z4:Int)=>(br (!i==IntKind.wrap .i64 (IntKind.wrap .i16 i)) (K (.returned (.slice none 0 0)) []) (K (.returned (.slice (some ⟨0,0,some 0⟩) 3 0)) [some (.row .mine 1 0 3 fun j k=>mrgT (Nat.blt j 1) (mrgT (Nat.blt (0+j) 0) (nthT [.sc z0] k) (selT 1 1 [.sc z2] (0+j-0) k)) (mrgT (Nat.blt (7+(j-1)) z1) (mrgT (Nat.blt (0+(7+(j-1))) z5) (mrgT (Nat.blt (0+(0+(7+(j-1)))) (0+(1+1)+2)) (mrgT (Nat.blt (0+(0+(0+(7+(j-1))))) (0+(1+1))) (mrgT (Nat.blt (0+(0+(0+(0+(7+(j-1)))))) 0) (nthT [.sc z0] k) (selT 1 (1+1) [.sc z0,.sc z3] (0+(0+(0+(0+(7+(j-1)))))-0) k)) (selT 1 2 [.sc z3,.sc z2] (0+(0+(0+(7+(j-1))))-(0+(1+1))) k)) (selT 1 (1+1) [.sc z0,.sc z0] (0+(0+(7+(j-1)))-(0+(1+1)+2)) k)) (selT 1 1 [.sc z0] (0+(7+(j-1))-z5) k)) (selT 1 (1+1) [.sc (.int .u8 (IntKind.wrap .u8 (Int.fdiv z4 (256:Int)))),.sc (.int .u8 (IntKind.wrap .u8 (Int.fdiv z4 (1:Int))))] (7+(j-1)-z1) k)))]))) (.int .u8 (0:Int)) (.int .u8 (2:Int)) (.int .u8 (1:Int)) (0+(1+1)+2+(1+1)+1) (0+(1+1)+2+(1+1)) (IntKind.wrap .u64 i):=by kernel_rfl
theorem anC_(i:Int)(β:Bs)(K:AE→List (Option AObj)→Prop):lawE Tryz.prog j9_ 100 20 β (fun _=>0) (cnOf 0 fun _=>[]) (fun _ _=>False) 76 [.agg ⟨[.int .i64 3,.int .i64 i,.float .f64 0]⟩] (mkS []) (outC 0 K)=
 (fun(z0 z3 z4:Value) (z1:Int) (z2 z5:Nat)=>(br (!i==IntKind.wrap .i64 (IntKind.wrap .i32 i)) (K (.returned (.slice none 0 0)) []) (K (.returned (.slice (some ⟨0,0,some 0⟩) 5 0)) [some (.row .mine 1 0 5 fun j k=>mrgT (Nat.blt j 1) (mrgT (Nat.blt (0+j) 0) (nthT [.sc z0] k) (selT 1 1 [.sc z3] (0+j-0) k)) (mrgT (Nat.blt (7+(j-1)) z2) (mrgT (Nat.blt (0+(7+(j-1))) z5) (mrgT (Nat.blt (0+(0+(7+(j-1)))) (0+(1+1)+2)) (mrgT (Nat.blt (0+(0+(0+(7+(j-1))))) (0+(1+1))) (mrgT (Nat.blt (0+(0+(0+(0+(7+(j-1)))))) 0) (nthT [.sc z0] k) (selT 1 (1+1) [.sc z0,.sc z4] (0+(0+(0+(0+(7+(j-1)))))-0) k)) (selT 1 2 [.sc z4,.sc z3] (0+(0+(0+(7+(j-1))))-(0+(1+1))) k)) (selT 1 (1+1) [.sc z0,.sc z0] (0+(0+(7+(j-1)))-(0+(1+1)+2)) k)) (selT 1 1 [.sc z0] (0+(7+(j-1))-z5) k)) (selT 1 (1+1+1+1) [.sc (.int .u8 (IntKind.wrap .u8 (Int.fdiv z1 (16777216:Int)))),.sc (.int .u8 (IntKind.wrap .u8 (Int.fdiv z1 (65536:Int)))),.sc (.int .u8 (IntKind.wrap .u8 (Int.fdiv z1 (256:Int)))),.sc (.int .u8 (IntKind.wrap .u8 (Int.fdiv z1 (1:Int))))] (7+(j-1)-z2) k)))]))) (.int .u8 (0:Int)) (.int .u8 (3:Int)) (.int .u8 (1:Int)) (IntKind.wrap .u64 i) (0+(1+1)+2+(1+1)+1) (0+(1+1)+2+(1+1)):=by kernel_rfl
theorem anB_(i:Int)(β:Bs)(K:AE→List (Option AObj)→Prop):lawE Tryz.prog j9_ 100 20 β (fun _=>0) (cnOf 0 fun _=>[]) (fun _ _=>False) 76 [.agg ⟨[.int .i64 4,.int .i64 i,.float .f64 0]⟩] (mkS []) (outC 0 K)=
 (fun(z0:Int) (z1 z3 z4:Value) (z2 z5:Nat)=>(K (.returned (.slice (some ⟨0,0,some 0⟩) 9 0)) [some (.row .mine 1 0 9 fun j k=>mrgT (Nat.blt j 1) (mrgT (Nat.blt (0+j) 0) (nthT [.sc z1] k) (selT 1 1 [.sc z3] (0+j-0) k)) (mrgT (Nat.blt (7+(j-1)) z2) (mrgT (Nat.blt (0+(7+(j-1))) z5) (mrgT (Nat.blt (0+(0+(7+(j-1)))) (0+(1+1)+2)) (mrgT (Nat.blt (0+(0+(0+(7+(j-1))))) (0+(1+1))) (mrgT (Nat.blt (0+(0+(0+(0+(7+(j-1)))))) 0) (nthT [.sc z1] k) (selT 1 (1+1) [.sc z1,.sc z4] (0+(0+(0+(0+(7+(j-1)))))-0) k)) (selT 1 2 [.sc z4,.sc z3] (0+(0+(0+(7+(j-1))))-(0+(1+1))) k)) (selT 1 (1+1) [.sc z1,.sc z1] (0+(0+(7+(j-1)))-(0+(1+1)+2)) k)) (selT 1 1 [.sc z1] (0+(7+(j-1))-z5) k)) (selT 1 (1+1+1+1+1+1+1+1) [.sc (.int .u8 (IntKind.wrap .u8 (Int.fdiv z0 (72057594037927936:Int)))),.sc (.int .u8 (IntKind.wrap .u8 (Int.fdiv z0 (281474976710656:Int)))),.sc (.int .u8 (IntKind.wrap .u8 (Int.fdiv z0 (1099511627776:Int)))),.sc (.int .u8 (IntKind.wrap .u8 (Int.fdiv z0 (4294967296:Int)))),.sc (.int .u8 (IntKind.wrap .u8 (Int.fdiv z0 (16777216:Int)))),.sc (.int .u8 (IntKind.wrap .u8 (Int.fdiv z0 (65536:Int)))),.sc (.int .u8 (IntKind.wrap .u8 (Int.fdiv z0 (256:Int)))),.sc (.int .u8 (IntKind.wrap .u8 (Int.fdiv z0 (1:Int))))] (7+(j-1)-z2) k)))])) (IntKind.wrap .u64 i) (.int .u8 (0:Int)) (.int .u8 (4:Int)) (.int .u8 (1:Int)) (0+(1+1)+2+(1+1)+1) (0+(1+1)+2+(1+1)):=by kernel_rfl
theorem anA_(f:Nat)(β:Bs)(K:AE→List (Option AObj)→Prop):lawE Tryz.prog j9_ 100 20 β (fun _=>0) (cnOf 0 fun _=>[]) (fun _ _=>False) 76 [.agg ⟨[.int .i64 5,.int .i64 0,.float .f64 f]⟩] (mkS []) (outC 0 K)=
 (fun(z0 z3 z4:Value) (z1:Int) (z2 z5:Nat)=>(K (.returned (.slice (some ⟨0,0,some 0⟩) 9 0)) [some (.row .mine 1 0 9 fun j k=>mrgT (Nat.blt j 1) (mrgT (Nat.blt (0+j) 0) (nthT [.sc z0] k) (selT 1 1 [.sc z3] (0+j-0) k)) (mrgT (Nat.blt (7+(j-1)) z2) (mrgT (Nat.blt (0+(7+(j-1))) z5) (mrgT (Nat.blt (0+(0+(7+(j-1)))) (0+(1+1)+2)) (mrgT (Nat.blt (0+(0+(0+(7+(j-1))))) (0+(1+1))) (mrgT (Nat.blt (0+(0+(0+(0+(7+(j-1)))))) 0) (nthT [.sc z0] k) (selT 1 (1+1) [.sc z0,.sc z4] (0+(0+(0+(0+(7+(j-1)))))-0) k)) (selT 1 2 [.sc z4,.sc z3] (0+(0+(0+(7+(j-1))))-(0+(1+1))) k)) (selT 1 (1+1) [.sc z0,.sc z0] (0+(0+(7+(j-1)))-(0+(1+1)+2)) k)) (selT 1 1 [.sc z0] (0+(7+(j-1))-z5) k)) (selT 1 (1+1+1+1+1+1+1+1) [.sc (.int .u8 (IntKind.wrap .u8 (Int.fdiv z1 (72057594037927936:Int)))),.sc (.int .u8 (IntKind.wrap .u8 (Int.fdiv z1 (281474976710656:Int)))),.sc (.int .u8 (IntKind.wrap .u8 (Int.fdiv z1 (1099511627776:Int)))),.sc (.int .u8 (IntKind.wrap .u8 (Int.fdiv z1 (4294967296:Int)))),.sc (.int .u8 (IntKind.wrap .u8 (Int.fdiv z1 (16777216:Int)))),.sc (.int .u8 (IntKind.wrap .u8 (Int.fdiv z1 (65536:Int)))),.sc (.int .u8 (IntKind.wrap .u8 (Int.fdiv z1 (256:Int)))),.sc (.int .u8 (IntKind.wrap .u8 (Int.fdiv z1 (1:Int))))] (7+(j-1)-z2) k)))])) (.int .u8 (0:Int)) (.int .u8 (5:Int)) (.int .u8 (1:Int)) (Int.ofNat (bitsN f)) (0+(1+1)+2+(1+1)+1) (0+(1+1)+2+(1+1)):=by kernel_rfl
theorem e6_{N:Nat}(h:N<18446744073709551616):dU (N:Int)=((N/256:Nat):Int):=by
 unfold dU
 have:Int.tdiv (N:Int) 256=((N/256:Nat):Int):=by rw[Int.tdiv_eq_ediv_of_nonneg (by omega)];omega
 rw[this]
 unfold IntKind.wrap
 simp[IntKind.signed,IntKind.bits]
 omega
theorem p7_(N:Nat):bU (N:Int)=⟨((N%256:Nat):Int)⟩:=by
 unfold bU
 have:Int.tmod (N:Int) 256=((N%256:Nat):Int):=by rw[Int.tmod_eq_emod_of_nonneg (by omega)];omega
 rw[this]
 congr 1
 unfold IntKind.wrap
 simp[IntKind.signed,IntKind.bits]
theorem z7_(N M:Nat):IntKind.wrap .u8 (Int.fdiv (N:Int) (M:Int))=((N/M%256:Nat):Int):=by
 have:Int.fdiv (N:Int) (M:Int)=((N/M:Nat):Int):=by rw[Int.fdiv_eq_ediv_of_nonneg _ (by omega)];omega
 rw[this]
 unfold IntKind.wrap
 simp[IntKind.signed,IntKind.bits]
theorem fdl1(N:Nat):IntKind.wrap .u8 (Int.fdiv (N:Int) 1)=((N%256:Nat):Int):=by rw[show(1:Int)=((1:Nat):Int)from rfl,z7_,Nat.div_one]
theorem fdl2(N:Nat):IntKind.wrap .u8 (Int.fdiv (N:Int) 256)=((N/256%256:Nat):Int):=z7_ N 256
theorem fdl3(N:Nat):IntKind.wrap .u8 (Int.fdiv (N:Int) 65536)=((N/65536%256:Nat):Int):=z7_ N 65536
theorem fdl4(N:Nat):IntKind.wrap .u8 (Int.fdiv (N:Int) 16777216)=((N/16777216%256:Nat):Int):=z7_ N 16777216
theorem fdl5(N:Nat):IntKind.wrap .u8 (Int.fdiv (N:Int) 4294967296)=((N/4294967296%256:Nat):Int):=z7_ N 4294967296
theorem fdl6(N:Nat):IntKind.wrap .u8 (Int.fdiv (N:Int) 1099511627776)=((N/1099511627776%256:Nat):Int):=z7_ N 1099511627776
theorem fdl7(N:Nat):IntKind.wrap .u8 (Int.fdiv (N:Int) 281474976710656)=((N/281474976710656%256:Nat):Int):=z7_ N 281474976710656
theorem fdl8(N:Nat):IntKind.wrap .u8 (Int.fdiv (N:Int) 72057594037927936)=((N/72057594037927936%256:Nat):Int):=z7_ N 72057594037927936
theorem C6_(x:Int): ∃N:Nat,IntKind.wrap .u64 x=(N:Int)∧N<18446744073709551616:=by
 have h:0≤IntKind.wrap .u64 x∧IntKind.wrap .u64 x<18446744073709551616:=by
  unfold IntKind.wrap
  simp[IntKind.signed,IntKind.bits]
  omega
 exact⟨(IntKind.wrap .u64 x).toNat,by omega,by omega⟩
def n8(N:Nat):U8:=⟨((N%256:Nat):Int)⟩
theorem amq_{N:Nat}(h:N<18446744073709551616):hi1 (N:Int)=[n8 N]:=by simp only[hi1,p7_];rfl
theorem afU_{N:Nat}(h:N<18446744073709551616):hi2 (N:Int)=[n8 (N/256),n8 N]:=by
 simp only[hi2,e6_ h,p7_];rfl
theorem amo_{N:Nat}(h:N<18446744073709551616):hi4 (N:Int)=[n8 (N/16777216),n8 (N/65536),n8 (N/256),n8 N]:=by
 have h1:N/256<18446744073709551616:=by omega
 have h2:N/256/256<18446744073709551616:=by omega
 simp only[hi4,e6_ h,e6_ h1,e6_ h2,p7_]
 simp only[Nat.div_div_eq_div_mul];rfl
theorem aaE_{N:Nat}(h:N<18446744073709551616):hi8 (N:Int)=[n8 (N/72057594037927936),n8 (N/281474976710656),n8 (N/1099511627776),n8 (N/4294967296),n8 (N/16777216),n8 (N/65536),n8 (N/256),n8 N]:=by
 have h1:N/256<18446744073709551616:=by omega
 have h2:N/256/256<18446744073709551616:=by omega
 have h3:N/256/256/256<18446744073709551616:=by omega
 have h4:N/256/256/256/256<18446744073709551616:=by omega
 have h5:N/256/256/256/256/256<18446744073709551616:=by omega
 have h6:N/256/256/256/256/256/256<18446744073709551616:=by omega
 simp only[hi8,e6_ h,e6_ h1,e6_ h2,e6_ h3,e6_ h4,e6_ h5,e6_ h6,p7_]
 simp only[Nat.div_div_eq_div_mul];rfl
theorem w7_{m:List (Option AObj)}{n:Nat}{e:Nat→Nat→Td}(L:List U8)(hm:m=[some (.row .mine 1 0 n e)])(hn:L.length=n)(h: ∀i,i<n→e i 0= .sc (.int .u8 (L.getD i Enc.dflt).v)): ∃m2,a6_ m m2∧ansE (.ret (ansW L 0)) (.returned (.slice (some ⟨0,0,some 0⟩) n 0)) (mkS m2):=by
 subst hm hn
 refine⟨[some (rowO .mine L)],⟨rfl,fun i o2 ho=> ?_⟩,[0],h8_ L rfl fun _=>rfl,by simp⟩
 match i,ho with
 |0,ho=>cases ho;exact⟨_,rfl,rfl,fun _ _ _ hr=>ObjR.row_congr rfl (fun i _ hi j hj=>by
   have hj:j<1:=hj
   have:j=0:=by omega
   subst this
   exact h i hi) hr⟩
 |_+1,ho=>cases ho
def okPq(v:Vl):Bool:=i0_ v&&(v.k==5&&Nat.blt v.f 18446744073709551616||Nat.beq v.f 0)
theorem aiX_{f:Nat}(h:f<18446744073709551616):bitsN f<18446744073709551616:=by
 unfold bitsN
 cases nanB FloatKind.f64 f with
 |true=>show(9221120237041090561:Nat)<_;decide
 |false=>exact h
theorem mayVV_kind{v:Vl}(h:i0_ v=true):v.k=5∧v.i=0∨v.k=1∧(v.i=0∨v.i=1)∨v.k=2∧v.i=IntKind.wrap .i64 (IntKind.wrap .i16 v.i)∨v.k=3∧v.i=IntKind.wrap .i64 (IntKind.wrap .i32 v.i)∨v.k=4:=by
 unfold i0_ at h
 generalize(Ieee.Format.order (FloatKind.format FloatKind.f64) (Vl.f v) 0==some Ordering.eq)=c1 at h
 generalize(!Ieee.Format.order (FloatKind.format FloatKind.f64) (ariR FloatKind.f64 BinOp.quo 4607182418800017408 (Vl.f v)) 0==some Ordering.gt)=c2 at h
 cases h5:(v.k==5)with
 |true=>rw[h5]at h;exact .inl ⟨eq_of_beq h5,eq_of_beq h⟩
 |false=>
  rw[h5]at h
  cases c1 with
  |false=>cases h
  |true=>
   cases c2 with
   |true=>cases h
   |false=>
    simp only[cond_true,cond_false]at h
    cases h1:(v.k==1)with
    |true=>
     rw[h1]at h
     simp only[cond_true]at h
     cases h0:(v.i==0)with
     |true=>exact .inr (.inl ⟨eq_of_beq h1,.inl (eq_of_beq h0)⟩)
     |false=>rw[h0]at h;exact .inr (.inl ⟨eq_of_beq h1,.inr (eq_of_beq h)⟩)
    |false=>
     rw[h1]at h
     simp only[cond_false]at h
     cases h2:(v.k==2)with
     |true=>rw[h2]at h;exact .inr (.inr (.inl ⟨eq_of_beq h2,eq_of_beq h⟩))
     |false=>
      rw[h2]at h
      simp only[cond_false]at h
      cases h3:(v.k==3)with
      |true=>rw[h3]at h;exact .inr (.inr (.inr (.inl ⟨eq_of_beq h3,eq_of_beq h⟩)))
      |false=>rw[h3]at h;exact .inr (.inr (.inr (.inr (eq_of_beq h))))
theorem apU_{f:Nat}(hfl:f<18446744073709551616)(β:Bs):HdP (lawE Tryz.prog j9_ 100 20 β (fun _=>0) (cnOf 0 fun _=>[]) (fun _ _=>False) 76 [.agg ⟨[.int .i64 5,.int .i64 0,.float .f64 f]⟩] (mkS []) (outC 0 fun r q=> ∃m2,a6_ q m2∧ansE (.ret (ansW (pvL ⟨5,0,f⟩) 0)) r (mkS m2))):=by
 refine⟨?_⟩
 rw[anA_]
 try dsimp only
 have hb:=aiX_ hfl
 refine w7_ (pvL ⟨5,0,f⟩) rfl (by show(_::hi8 _).length=9;rfl) fun i hi=> ?_
 have e:pvL ⟨5,0,f⟩=⟨5⟩::hi8 (bitsN f:Nat):=rfl
 rw[e,aaE_ hb]
 simp only[Int.ofNat_eq_natCast,fdl1,fdl2,fdl3,fdl4,fdl5,fdl6,fdl7,fdl8]
 match i,hi with
 |0,_=>rfl
 |1,_=>rfl
 |2,_=>rfl
 |3,_=>rfl
 |4,_=>rfl
 |5,_=>rfl
 |6,_=>rfl
 |7,_=>rfl
 |8,_=>rfl
theorem apY_{i:Int}(hi:i=0∨i=1)(β:Bs):HdP (lawE Tryz.prog j9_ 100 20 β (fun _=>0) (cnOf 0 fun _=>[]) (fun _ _=>False) 76 [.agg ⟨[.int .i64 1,.int .i64 i,.float .f64 0]⟩] (mkS []) (outC 0 fun r q=> ∃m2,a6_ q m2∧ansE (.ret (ansW (pvL ⟨1,i,0⟩) 0)) r (mkS m2))):=by
 refine⟨?_⟩
 rw[anE_]
 try dsimp only
 obtain⟨N,hN,hN2⟩:=C6_ i
 have e:pvL ⟨1,i,0⟩=⟨1⟩::hi1 (IntKind.wrap .u64 i):=rfl
 rw[e,hN,amq_ hN2]
 simp only[fdl1]
 refine a0_ (fun _=>w7_ _ rfl rfl fun j hj=> ?_) (fun h0=>a0_ (fun h1=> ?_) (fun _=>w7_ _ rfl rfl fun j hj=> ?_))
 ·match j,hj with
  |0,_=>rfl
  |1,_=>rfl
 ·rcases hi with rfl|rfl
  ·simp at h0
  ·simp at h1
 ·match j,hj with
  |0,_=>rfl
  |1,_=>rfl
theorem apX_{i:Int}(hi:i=IntKind.wrap .i64 (IntKind.wrap .i16 i))(β:Bs):HdP (lawE Tryz.prog j9_ 100 20 β (fun _=>0) (cnOf 0 fun _=>[]) (fun _ _=>False) 76 [.agg ⟨[.int .i64 2,.int .i64 i,.float .f64 0]⟩] (mkS []) (outC 0 fun r q=> ∃m2,a6_ q m2∧ansE (.ret (ansW (pvL ⟨2,i,0⟩) 0)) r (mkS m2))):=by
 refine⟨?_⟩
 rw[anD_]
 try dsimp only
 obtain⟨N,hN,hN2⟩:=C6_ i
 have e:pvL ⟨2,i,0⟩=⟨2⟩::hi2 (IntKind.wrap .u64 i):=rfl
 rw[e,hN,afU_ hN2]
 simp only[fdl1,fdl2]
 refine a0_ (fun h1=> ?_) (fun _=>w7_ _ rfl rfl fun j hj=> ?_)
 ·rw[←hi]at h1;simp at h1
 ·match j,hj with
  |0,_=>rfl
  |1,_=>rfl
  |2,_=>rfl
theorem apW_{i:Int}(hi:i=IntKind.wrap .i64 (IntKind.wrap .i32 i))(β:Bs):HdP (lawE Tryz.prog j9_ 100 20 β (fun _=>0) (cnOf 0 fun _=>[]) (fun _ _=>False) 76 [.agg ⟨[.int .i64 3,.int .i64 i,.float .f64 0]⟩] (mkS []) (outC 0 fun r q=> ∃m2,a6_ q m2∧ansE (.ret (ansW (pvL ⟨3,i,0⟩) 0)) r (mkS m2))):=by
 refine⟨?_⟩
 rw[anC_]
 try dsimp only
 obtain⟨N,hN,hN2⟩:=C6_ i
 have e:pvL ⟨3,i,0⟩=⟨3⟩::hi4 (IntKind.wrap .u64 i):=rfl
 rw[e,hN,amo_ hN2]
 simp only[fdl1,fdl2,fdl3,fdl4]
 refine a0_ (fun h1=> ?_) (fun _=>w7_ _ rfl rfl fun j hj=> ?_)
 ·rw[←hi]at h1;simp at h1
 ·match j,hj with
  |0,_=>rfl
  |1,_=>rfl
  |2,_=>rfl
  |3,_=>rfl
  |4,_=>rfl
theorem apV_{i:Int}(β:Bs):HdP (lawE Tryz.prog j9_ 100 20 β (fun _=>0) (cnOf 0 fun _=>[]) (fun _ _=>False) 76 [.agg ⟨[.int .i64 4,.int .i64 i,.float .f64 0]⟩] (mkS []) (outC 0 fun r q=> ∃m2,a6_ q m2∧ansE (.ret (ansW (pvL ⟨4,i,0⟩) 0)) r (mkS m2))):=by
 refine⟨?_⟩
 rw[anB_]
 try dsimp only
 obtain⟨N,hN,hN2⟩:=C6_ i
 have e:pvL ⟨4,i,0⟩=⟨4⟩::hi8 (IntKind.wrap .u64 i):=rfl
 rw[e,hN,aaE_ hN2]
 simp only[fdl1,fdl2,fdl3,fdl4,fdl5,fdl6,fdl7,fdl8]
 refine w7_ _ rfl rfl fun j hj=> ?_
 match j,hj with
 |0,_=>rfl
 |1,_=>rfl
 |2,_=>rfl
 |3,_=>rfl
 |4,_=>rfl
 |5,_=>rfl
 |6,_=>rfl
 |7,_=>rfl
 |8,_=>rfl
theorem alu_:c5_ Tryz.prog 76 (okA1 (Sc Vl) fun v=>okPq v.x) (g9_ (Sc Vl) fun v=> .ret (ansW (pvL v.x) 0)):=by
 refine l0_ follows fun r _ hp=>LawC.of j9_ 100 20 (fun _=>0) (fun _=>[]) (fun _ _=>False) S1_ fun β hβ=> ?_
 obtain⟨⟨k,i,f⟩⟩:=r
 show HdP (lawE Tryz.prog j9_ 100 20 β (fun _=>0) (cnOf 0 fun _=>[]) (fun _ _=>False) 76 [.agg ⟨[.int .i64 k,.int .i64 i,.float .f64 f]⟩] (mkS []) (outC 0 fun r q=> ∃m2,a6_ q m2∧ansE (.ret (ansW (pvL ⟨k,i,f⟩) 0)) r (mkS m2)))
 have hp:okPq ⟨k,i,f⟩=true:=hp
 unfold okPq at hp
 rw[Bool.and_eq_true]at hp
 obtain⟨hp1,hp2⟩:=hp
 have hk:=mayVV_kind hp1
 have hk:k=5∧i=0∨k=1∧(i=0∨i=1)∨k=2∧i=IntKind.wrap .i64 (IntKind.wrap .i16 i)∨k=3∧i=IntKind.wrap .i64 (IntKind.wrap .i32 i)∨k=4:=hk
 have hp2:(k==5&&Nat.blt f 18446744073709551616||Nat.beq f 0)=true:=hp2
 rw[Bool.or_eq_true,Bool.and_eq_true]at hp2
 have hf:k≠5→f=0:=fun h=>by
  rcases hp2 with h2|h2
  ·exact absurd (eq_of_beq h2.1) h
  ·exact Nat.eq_of_beq_eq_true h2
 have hfl:f<18446744073709551616:=by
  rcases hp2 with h2|h2
  ·have:=h2.2;simpa using this
  ·have:=Nat.eq_of_beq_eq_true h2;omega
 clear hp1 hp2
 rcases hk with⟨h1,h2⟩|⟨h1,hi⟩|⟨h1,hi⟩|⟨h1,hi⟩|h1
 ·subst h1 h2;exact apU_ hfl β
 ·have:=hf (by rw[h1];decide)
  subst this h1
  exact apY_ hi β
 ·have:=hf (by rw[h1];decide)
  subst this h1
  exact apX_ hi β
 ·have:=hf (by rw[h1];decide)
  subst this h1
  exact apW_ hi β
 ·have:=hf (by rw[h1];decide)
  subst this h1
  exact apV_ β
def toldR6:Told:=j9_.tree 76 (okA1 (Sc Vl) fun v=>okPq v.x) (g9_ (Sc Vl) fun v=> .ret (ansW (pvL v.x) 0))
theorem toldR6_ok:a8_ Tryz.prog toldR6:=Told.tree_ok S1_ alu_
end Go.Proofs.YtachglcffimmeaaGreat.Ev
