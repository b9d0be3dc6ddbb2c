/-
  annunciatorref16.TakeMsg: told.
-/
import Derived.Test.YtachglcffimmeaaGreatQ36
set_option linter.unusedVariables false
set_option linter.unusedSimpArgs false
set_option maxRecDepth 1000000
namespace Go.Proofs.YtachglcffimmeaaGreat.Ev
open Go Go.Proofs Go.RowKit
def hfK(L:List U8)(n w:Nat):Int:=IntKind.wrap .i64 (Int.ofNat (beN L (L.length-n) w))
def nH7(L:List U8):Nat:=L.length-1-2-2-2-1-1-8
def nH8(L:List U8):Nat:=vnF L (nH7 L)
def hdH(L:List U8):Ms:=⟨hfK L (L.length) 1,hfK L (L.length-1) 2,hfK L (L.length-1-2-2-2) 1,hfK L (L.length-1-2) 2,hfK L (L.length-1-2-2) 2,Int.ofNat (beN L (L.length-(L.length-1-2-2-2-1)) 1) !=(0:Int),hfK L (L.length-1-2-2-2-1-1) 8,vvF L (nH7 L),[],1,[],1⟩
def tk2(L:List U8)(m:Ms):Option Ms:=cond (Int.ofNat L.length==0) none (cond (!(e7_ (pmL m) L)) none (some m))
def tk1(L:List U8)(m:Ms)(n:Nat):Option Ms:=cond (Nat.blt n 1) none (match vfL L (beN L (L.length-n) 1) (n-1) []with
 |none=>none
 |some (vs,_)=>tk2 L (g5_ m m.ps vs))
def tk0(L:List U8):Option Ms:=cond (Nat.blt (nH8 L) 1) none (match pfL L (beN L (L.length-nH8 L) 1) (nH8 L-1) []with
 |none=>none
 |some (ps,n)=>tk1 L (d1_ (hdH L) ps) n)
def d5_(L:List U8):Option Ms:=cond (Nat.blt (L.length) 1) none (cond (Nat.blt (L.length-1) 2) none (cond (Nat.blt (L.length-1-2) 2) none (cond (Nat.blt (L.length-1-2-2) 2) none (cond (Nat.blt (L.length-1-2-2-2) 1) none (cond (Nat.blt (L.length-1-2-2-2-1) 1) none (cond (Nat.blt (L.length-1-2-2-2-1-1) 8) none (cond ((fvF true).bd L (nH7 L)) none (tk0 L))))))))
def GbH(L:List U8)(n d:Nat):Prop:=n≤L.length∧d≤1∧d5_ L=none
def G1H(L:List U8)(m:Ms)(n:Nat):Prop:=n≤L.length∧d5_ L=tk1 L m n∧m.ps.length≤1000∧m=d1_ m m.ps
def G2H(L:List U8)(m:Ms)(n:Nat):Prop:=d5_ L=tk2 L m∧okA Ms m=true∧m=g5_ m m.ps m.vs
def exHH(L:List U8)(c:Nat):Nat→Kt→Prop:=exH L c (GbH L) (G1H L) (G2H L)
theorem aeJ_{L:List U8}{c:Nat}(hL:L.all (okA U8)=true)(hl:L.length≤1000000)(hc:c≤1):rfB (some (.row .look 1 0 L.length (encL L))) 0 L.length c=true:=by
 have:=a7_ hL hl (Nat.le_refl _) hc
 rw[Nat.sub_self]at this;exact this
theorem l9_{L:List U8}{c n d:Nat}{m:Ms}{β:Bs}(hβ:β.X.length=1)(hL:L.all (okA U8)=true)(hl:L.length≤1000000)(hn:n≤L.length)(hd:d≤1)(hT:d5_ L=none):
  LoopJ Tryz.prog β (exHH L c) 0 (a5_ Tryz.prog 11 0) (GT1 L c 0) (mkS [some (rowO .look L),some (.cells (msCs zMs nilV nilV) true 0),some (RfO L n d true),some (.cells (msCs m nilV nilV) true 0)]):=by
 have:=abp_ (c:=c) (m:=m) (ex:=exHH L c) (qq:=none) hβ hL hl ⟨0,n,d,true,[]⟩ ⟨hn,hd,by show 0≤1000;omega,(fun h=>by cases h),fun _=>rfl⟩ (fun K hK ps n d _ h1 h2=>hK.1 (d1_ m ps) n d ⟨h1,h2,hT⟩) (fun K hK ps n h=>by cases h)
 refine LoopJ.seen (f1:=GT1 L c ((0:Nat):Int)) (st1:=HS1 L n d true (d1_ m [])) ?_ this
 refine Seen.trans (Seen.void 1 (encL ([]:List St))) (Seen.objs rfl fun q o2 h=> ?_)
 match q,h with
 |0,h=>cases h;exact⟨_,rfl,rfl,fun _ _ _ h=>h⟩
 |1,h=>cases h;exact⟨_,rfl,rfl,fun _ _ _ h=>h⟩
 |2,h=>cases h;exact⟨_,rfl,rfl,fun _ _ _ h=>h⟩
 |3,h=>cases h;exact⟨_,rfl,rfl,fun _ _ _ h=>ObjR.nilCell (j:=10) (k:=4) rfl h⟩
 |4,h=>cases h;exact⟨_,rfl,rfl,fun _ _ _ h=>h⟩
 |_+5,h=>cases h
theorem abd_{L:List U8}{β:Bs}{m:Ms}{n d:Nat}{q:Bool}{F:AFr}:
  Seen β F (mkS [some (rowO .look L),some (.cells (msCs zMs nilV nilV) true 0),some (RfO L n d q),some (.cells (msCs m (.slice (some ⟨4,0,some 0⟩) m.ps.length 1) nilV) true 0),some (rowO .mine m.ps)]) F (HS2 L n d q (g5_ m m.ps [])):=by
 refine Seen.trans (Seen.void 3 (encL ([]:List Vl))) (Seen.objs rfl fun q o2 h=> ?_)
 match q,h with
 |0,h=>cases h;exact⟨_,rfl,rfl,fun _ _ _ h=>h⟩
 |1,h=>cases h;exact⟨_,rfl,rfl,fun _ _ _ h=>h⟩
 |2,h=>cases h;exact⟨_,rfl,rfl,fun _ _ _ h=>h⟩
 |3,h=>cases h;exact⟨_,rfl,rfl,fun _ _ _ h=>ObjR.nilCell (j:=11) (k:=5) rfl h⟩
 |4,h=>cases h;exact⟨_,rfl,rfl,fun _ _ _ h=>h⟩
 |5,h=>cases h;exact⟨_,rfl,rfl,fun _ _ _ h=>h⟩
 |_+6,h=>cases h
theorem aee_{L:List U8}{c n d:Nat}{m:Ms}{β:Bs}(hβ:β.X.length=1)(hL:L.all (okA U8)=true)(hl:L.length≤1000000)(hn:n≤L.length)(hd:d≤1)(hT:d5_ L=none):
  LoopJ Tryz.prog β (exHH L c) 2 (a5_ Tryz.prog 11 2) (GT2 L c 0) (mkS [some (rowO .look L),some (.cells (msCs zMs nilV nilV) true 0),some (RfO L n d true),some (.cells (msCs m (.slice (some ⟨4,0,some 0⟩) m.ps.length 1) nilV) true 0),some (rowO .mine m.ps)]):=by
 have:=abo_ (c:=c) (m:=m) (ps:=m.ps) (ex:=exHH L c) (qq:=none) hβ hL hl ⟨0,n,d,true,[]⟩ ⟨hn,hd,by show 0≤1000;omega,(fun h=>by cases h),fun _=>rfl⟩ (fun K hK vs n d _ h1 h2=>hK.1 (g5_ m m.ps vs) n d ⟨h1,h2,hT⟩) (fun K hK vs n h=>by cases h)
 exact LoopJ.seen (f1:=GT2 L c ((0:Nat):Int)) abd_ this
theorem decM(X:Ms)(h1:X.cps=1)(h2:X.cvs=1):(Enc.dec (nthT [Td.sc (.int .i64 X.k),Td.sc (.int .i64 X.id),Td.sc (.int .i64 X.er),Td.sc (.int .i64 X.n),Td.sc (.int .i64 X.sq),Td.sc (.bool X.lo),Td.sc (.int .i64 X.ev),Td.sc (.int .i64 X.bd.k),Td.sc (.int .i64 X.bd.i),Td.sc (.float .f64 X.bd.f),Td.fr 1 X.ps.length 1 fun i=>encL X.ps i,Td.fr 3 X.vs.length 1 fun i=>encL X.vs i]):Ms)=X:=by
 obtain⟨a1,a2,a3,a4,a5,a6,a7,⟨b1,b2,b3⟩,a9,a10,a11,a12⟩:=X
 have h1:a10=1:=h1
 have h2:a12=1:=h2
 subst h1 h2
 exact(dE_ _).1
theorem okSM(X:Ms)(h1:X.cps=1)(h2:X.cvs=1)(h:okA Ms X=true):okS1 Ms (fun _=>true) [.agg [Td.sc (.int .i64 X.k),Td.sc (.int .i64 X.id),Td.sc (.int .i64 X.er),Td.sc (.int .i64 X.n),Td.sc (.int .i64 X.sq),Td.sc (.bool X.lo),Td.sc (.int .i64 X.ev),Td.sc (.int .i64 X.bd.k),Td.sc (.int .i64 X.bd.i),Td.sc (.float .f64 X.bd.f),Td.fr 1 X.ps.length 1 fun i=>encL X.ps i,Td.fr 3 X.vs.length 1 fun i=>encL X.vs i]]=true:=by
 obtain⟨a1,a2,a3,a4,a5,a6,a7,⟨b1,b2,b3⟩,a9,a10,a11,a12⟩:=X
 have h1:a10=1:=h1
 have h2:a12=1:=h2
 subst h1 h2
 have:okS1 Ms (fun _=>true) [.agg (b1_ (⟨a1,a2,a3,a4,a5,a6,a7,⟨b1,b2,b3⟩,a9,1,a11,1⟩:Ms))]=true:=by
  show(Nat.beq (b1_ _).length (Enc.es Ms)&&Enc.ok Ms (nthT (b1_ _))&&true)=true
  rw[eL_,Nat.beq_refl,(dE_ (α:=Ms) _).2,h];rfl
 exact this
theorem adD_{L:List U8}: ∀(r n:Nat) (vs ws:List Vl) (k:Nat),vfL L r n vs=some (ws,k)→ws.length=vs.length+r
 |0,n,vs,ws,k,h=>by cases h;rfl
 |r+1,n,vs,ws,k,h=>by
  unfold vfL at h
  revert h
  cases vbF L n with
  |true=>intro h;cases h
  |false=>
   intro h
   have:=adD_ r _ _ ws k h
   rw[this];simp;omega
theorem afi_{L:List U8}: ∀(r n:Nat) (vs ws:List St) (k:Nat),pfL L r n vs=some (ws,k)→ws.length=vs.length+r
 |0,n,vs,ws,k,h=>by cases h;rfl
 |r+1,n,vs,ws,k,h=>by
  unfold pfL at h
  revert h
  cases pbF L n with
  |true=>intro h;cases h
  |false=>
   intro h
   have:=afi_ r _ _ ws k h
   rw[this];simp;omega
theorem aoj_{L:List U8}{c:Nat}(hL:L.all (okA U8)=true)(hl:L.length≤1000000):TmF L (GbH L) (G2H L) (fun r q=> ∃m2,a6_ q m2∧ansE (H7_ (d5_ L)) r (mkS m2)):=by
 refine⟨fun m n d h=>tnl_ _ _ h.2.2,fun m n h=> ?_⟩
 obtain⟨h1,hok,hm⟩:=h
 have hc1:m.cps=1:=by rw[hm];rfl
 have hc2:m.cvs=1:=by rw[hm];rfl
 have hb:(h8_ (pmL m)==h8_ L)=e7_ (pmL m) L:=y6_ (ajZ_ m).1 hL
 simp only[Nat.zero_add,decM m hc1 hc2,X8_,hb]
 refine a0_ (fun h2=>tnl_ _ _ (by rw[h1];unfold tk2;rw[h2];rfl)) (fun h2=>nd_ (by simp) (nd_ (by simp) (nd_ (okSM m hc1 hc2 hok) (nd_ (by simp) (nd_ (w4_ _ _) (nd_ (by simp) (nd_ (w4_ _ _) ?_)))))))
 refine a0_ (fun h3=>tnl_ _ _ (by rw[h1];unfold tk2;rw[h2,h3];rfl)) (fun h3=> ?_)
 exact r7_ _ m hc1 hc2 _ (by rw[h1];unfold tk2;rw[h2,h3];rfl)
theorem ale_{L:List U8}{c:Nat}{β:Bs}(hβ:β.X.length=1)(hL:L.all (okA U8)=true)(hl:L.length≤1000000):TmR L c (GbH L) (G1H L) (G2H L) β (fun r q=> ∃m2,a6_ q m2∧ansE (H7_ (d5_ L)) r (mkS m2)):=by
 have hF:=aoj_ (c:=c) hL hl
 unfold TmR
 simp only[h9_,c7_]
 refine⟨fun m n d h=> ?_,fun m n h=> ?_⟩
 ·obtain⟨h1,h2,h3⟩:=h
  exact nd_ (a7_ hL hl h1 h2) ⟨aee_ hβ hL hl h1 h2 h3,hF⟩
 ·obtain⟨h1,h2,h3,h4⟩:=h
  refine a0_ (fun hb=> ?_) (fun hb=> ?_)
  ·have hT:d5_ L=none:=by rw[h2];unfold tk1;rw[hb];rfl
   exact nd_ (a7_ hL hl h1 (Nat.zero_le _)) ⟨aee_ hβ hL hl h1 (Nat.zero_le _) hT,hF⟩
  ·refine nd_ (a7_ hL hl h1 (Nat.zero_le _)) ⟨?_,hF⟩
   have hn1:=s1_ hb
   have hlt:=p6_ hL (L.length-n) 1
   have:=abo_ (c:=c) (m:=m) (ps:=m.ps) (ex:=exHH L c) (qq:=vfL L (beN L (L.length-n) 1) (n-1) []) hβ hL hl ⟨beN L (L.length-n) 1,n-1,0,false,[]⟩ ⟨by show n-1≤_;omega,Nat.zero_le _,by show 0+beN L (L.length-n) 1≤1000;omega,fun _=>⟨rfl,rfl⟩,(fun h=>by cases h)⟩ (fun K hK vs n' d hq g1 g2=>hK.1 (g5_ m m.ps vs) n' d ⟨g1,g2,by rw[h2];unfold tk1;rw[hb,hq];rfl⟩) (fun K hK vs n' hq g1=>hK.2 (g5_ m m.ps vs) n' ⟨by rw[h2];unfold tk1;rw[hb,hq];rfl,?_,rfl⟩)
   ·exact LoopJ.seen (f1:=GT2 L c ((beN L (L.length-n) 1:Nat):Int)) abd_ this
   ·have hlv:=adD_ _ _ _ _ _ hq
    have hlv:vs.length=0+beN L (L.length-n) 1:=hlv
    exact V7_ (List.all_eq_true.2 fun _ _=>rfl) (by show m.ps.length≤_;omega) (Nat.le_refl _) (List.all_eq_true.2 fun _ _=>rfl) (by show vs.length≤_;omega) (Nat.le_refl _)
theorem ahy_{L:List U8}{c:Nat}{β:Bs}(hβ:β.X.length=1)(hL:L.all (okA U8)=true)(hl:L.length≤1000000)(hT:d5_ L=tk0 L)(h8:Nat.blt (nH8 L) 1=false)(hn:nH8 L≤L.length):
  LoopJ Tryz.prog β (exHH L c) 0 (a5_ Tryz.prog 11 0) (GT1 L c ((beN L (L.length-nH8 L) 1:Nat):Int)) (mkS [some (rowO .look L),some (.cells (msCs zMs nilV nilV) true 0),some (RfO L (nH8 L-1) 0 false),some (.cells (msCs (hdH L) nilV nilV) true 0)]):=by
 have hlt:=p6_ hL (L.length-nH8 L) 1
 have:=abp_ (c:=c) (m:=hdH L) (ex:=exHH L c) (qq:=pfL L (beN L (L.length-nH8 L) 1) (nH8 L-1) []) hβ hL hl ⟨beN L (L.length-nH8 L) 1,nH8 L-1,0,false,[]⟩ ⟨by show nH8 L-1≤_;omega,Nat.zero_le _,by show 0+beN L (L.length-nH8 L) 1≤1000;omega,fun _=>⟨rfl,rfl⟩,(fun h=>by cases h)⟩ (fun K hK ps n d hq g1 g2=>hK.1 (d1_ (hdH L) ps) n d ⟨g1,g2,by rw[hT];unfold tk0;rw[h8,hq];rfl⟩) (fun K hK ps n hq g1=>hK.2 (d1_ (hdH L) ps) n ⟨g1,by rw[hT];unfold tk0;rw[h8,hq];rfl,?_,rfl⟩)
 ·refine LoopJ.seen (f1:=GT1 L c ((beN L (L.length-nH8 L) 1:Nat):Int)) (st1:=HS1 L (nH8 L-1) 0 false (d1_ (hdH L) [])) ?_ this
  refine Seen.trans (Seen.void 1 (encL ([]:List St))) (Seen.objs rfl fun q o2 h=> ?_)
  match q,h with
  |0,h=>cases h;exact⟨_,rfl,rfl,fun _ _ _ h=>h⟩
  |1,h=>cases h;exact⟨_,rfl,rfl,fun _ _ _ h=>h⟩
  |2,h=>cases h;exact⟨_,rfl,rfl,fun _ _ _ h=>h⟩
  |3,h=>cases h;exact⟨_,rfl,rfl,fun _ _ _ h=>ObjR.nilCell (j:=10) (k:=4) rfl h⟩
  |4,h=>cases h;exact⟨_,rfl,rfl,fun _ _ _ h=>h⟩
  |_+5,h=>cases h
 ·have hlv:=afi_ _ _ _ _ _ hq
  have hlv:ps.length=0+beN L (L.length-nH8 L) 1:=hlv
  show ps.length≤1000
  omega
theorem ahz_:c3_ Tryz.prog 11 (okA1 (Rw U8) fun r=>r.l.all (okA U8)) (j4_ (Rw U8) fun r=>H7_ (d5_ r.l)):=by
 refine n4_ follows fun r hg hp=>⟨toldZ4,100,20,fun _=>0,slH,exHH r.l r.c,toldZ4_ok,fun β hβ=> ?_⟩
 obtain⟨L,c⟩:=r
 obtain⟨hL,hl,hc⟩:=hg
 have hL:L.all (okA U8)=true:=hL
 have hl:L.length≤1000000:=hl
 have hc:c≤1:=hc
 show lawE Tryz.prog toldZ4 100 20 β (fun _=>0) (cnOf 1 slH) (exH L c (GbH L) (G1H L) (G2H L)) 11 [.slice (some ⟨0,0,some 0⟩) L.length c] (mkS [some (rowO .look L)]) (outC 1 fun r q=> ∃m2,a6_ q m2∧ansE (H7_ (d5_ L)) r (mkS m2))
 refine(apq_ L c (GbH L) (G1H L) (G2H L) β _).mpr ?_
 try dsimp only
 have hR:=ale_ (c:=c) hβ hL hl
 simp only[h9_,c7_]
 refine a0_ (fun b0=> ?_) (fun b0=>nd_ (aeJ_ hL hl hc) ?_)
 ·have hT:d5_ L=none:=by unfold d5_;rw[b0];rfl
  refine nd_ (aeJ_ hL hl hc) ?_
  refine nd_ (a7_ hL hl (by omega) (by omega)) ?_
  refine nd_ (a7_ hL hl (by omega) (by omega)) ?_
  refine nd_ (a7_ hL hl (by omega) (by omega)) ?_
  refine nd_ (a7_ hL hl (by omega) (by omega)) ?_
  refine nd_ (a7_ hL hl (by omega) (by omega)) ?_
  refine nd_ (a7_ hL hl (by omega) (by omega)) ?_
  refine nd_ (a7_ hL hl (by omega) (by omega)) ?_
  refine nd_ (a7_ hL hl (by omega) (by omega)) ?_
  exact⟨l9_ (m:=⟨0,0,0,0,0,false,0,⟨0,0,0⟩,[],1,[],1⟩) hβ hL hl (by omega) (by omega) hT,hR⟩
 refine a0_ (fun b1=> ?_) (fun b1=>nd_ (a7_ hL hl (by omega) (Nat.zero_le _)) ?_)
 ·have hT:d5_ L=none:=by unfold d5_;rw[b0,b1];rfl
  refine nd_ (a7_ hL hl (by omega) (by omega)) ?_
  refine nd_ (a7_ hL hl (by omega) (by omega)) ?_
  refine nd_ (a7_ hL hl (by omega) (by omega)) ?_
  refine nd_ (a7_ hL hl (by omega) (by omega)) ?_
  refine nd_ (a7_ hL hl (by omega) (by omega)) ?_
  refine nd_ (a7_ hL hl (by omega) (by omega)) ?_
  refine nd_ (a7_ hL hl (by omega) (by omega)) ?_
  refine nd_ (a7_ hL hl (by omega) (by omega)) ?_
  exact⟨l9_ (m:=⟨hfK L L.length 1,0,0,0,0,false,0,⟨0,0,0⟩,[],1,[],1⟩) hβ hL hl (by omega) (by omega) hT,hR⟩
 refine a0_ (fun b2=> ?_) (fun b2=>nd_ (a7_ hL hl (by omega) (Nat.zero_le _)) ?_)
 ·have hT:d5_ L=none:=by unfold d5_;rw[b0,b1,b2];rfl
  refine nd_ (a7_ hL hl (by omega) (by omega)) ?_
  refine nd_ (a7_ hL hl (by omega) (by omega)) ?_
  refine nd_ (a7_ hL hl (by omega) (by omega)) ?_
  refine nd_ (a7_ hL hl (by omega) (by omega)) ?_
  refine nd_ (a7_ hL hl (by omega) (by omega)) ?_
  refine nd_ (a7_ hL hl (by omega) (by omega)) ?_
  refine nd_ (a7_ hL hl (by omega) (by omega)) ?_
  exact⟨l9_ (m:=⟨hfK L L.length 1,hfK L (L.length-1) 2,0,0,0,false,0,⟨0,0,0⟩,[],1,[],1⟩) hβ hL hl (by omega) (by omega) hT,hR⟩
 refine a0_ (fun b3=> ?_) (fun b3=>nd_ (a7_ hL hl (by omega) (Nat.zero_le _)) ?_)
 ·have hT:d5_ L=none:=by unfold d5_;rw[b0,b1,b2,b3];rfl
  refine nd_ (a7_ hL hl (by omega) (by omega)) ?_
  refine nd_ (a7_ hL hl (by omega) (by omega)) ?_
  refine nd_ (a7_ hL hl (by omega) (by omega)) ?_
  refine nd_ (a7_ hL hl (by omega) (by omega)) ?_
  refine nd_ (a7_ hL hl (by omega) (by omega)) ?_
  refine nd_ (a7_ hL hl (by omega) (by omega)) ?_
  exact⟨l9_ (m:=⟨hfK L L.length 1,hfK L (L.length-1) 2,0,hfK L (L.length-1-2) 2,0,false,0,⟨0,0,0⟩,[],1,[],1⟩) hβ hL hl (by omega) (by omega) hT,hR⟩
 refine a0_ (fun b4=> ?_) (fun b4=>nd_ (a7_ hL hl (by omega) (Nat.zero_le _)) ?_)
 ·have hT:d5_ L=none:=by unfold d5_;rw[b0,b1,b2,b3,b4];rfl
  refine nd_ (a7_ hL hl (by omega) (by omega)) ?_
  refine nd_ (a7_ hL hl (by omega) (by omega)) ?_
  refine nd_ (a7_ hL hl (by omega) (by omega)) ?_
  refine nd_ (a7_ hL hl (by omega) (by omega)) ?_
  refine nd_ (a7_ hL hl (by omega) (by omega)) ?_
  exact⟨l9_ (m:=⟨hfK L L.length 1,hfK L (L.length-1) 2,0,hfK L (L.length-1-2) 2,hfK L (L.length-1-2-2) 2,false,0,⟨0,0,0⟩,[],1,[],1⟩) hβ hL hl (by omega) (by omega) hT,hR⟩
 refine a0_ (fun b5=> ?_) (fun b5=>nd_ (a7_ hL hl (by omega) (Nat.zero_le _)) ?_)
 ·have hT:d5_ L=none:=by unfold d5_;rw[b0,b1,b2,b3,b4,b5];rfl
  refine nd_ (a7_ hL hl (by omega) (by omega)) ?_
  refine nd_ (a7_ hL hl (by omega) (by omega)) ?_
  refine nd_ (a7_ hL hl (by omega) (by omega)) ?_
  refine nd_ (a7_ hL hl (by omega) (by omega)) ?_
  exact⟨l9_ (m:=⟨hfK L L.length 1,hfK L (L.length-1) 2,hfK L (L.length-1-2-2-2) 1,hfK L (L.length-1-2) 2,hfK L (L.length-1-2-2) 2,false,0,⟨0,0,0⟩,[],1,[],1⟩) hβ hL hl (by omega) (by omega) hT,hR⟩
 refine a0_ (fun b6=> ?_) (fun b6=>nd_ (a7_ hL hl (by omega) (Nat.zero_le _)) ?_)
 ·have hT:d5_ L=none:=by unfold d5_;rw[b0,b1,b2,b3,b4,b5,b6];rfl
  refine nd_ (a7_ hL hl (by omega) (by omega)) ?_
  refine nd_ (a7_ hL hl (by omega) (by omega)) ?_
  refine nd_ (a7_ hL hl (by omega) (by omega)) ?_
  exact⟨l9_ (m:=⟨hfK L L.length 1,hfK L (L.length-1) 2,hfK L (L.length-1-2-2-2) 1,hfK L (L.length-1-2) 2,hfK L (L.length-1-2-2) 2,Int.ofNat (beN L (L.length-(L.length-1-2-2-2-1)) 1) !=(0:Int),0,⟨0,0,0⟩,[],1,[],1⟩) hβ hL hl (by omega) (by omega) hT,hR⟩
 refine a0_ (fun b7=> ?_) (fun b7=>nd_ (a7_ hL hl (by omega) (Nat.zero_le _)) ?_)
 ·have b7:(fvF true).bd L (nH7 L)=true:=b7
  have hT:d5_ L=none:=by unfold d5_;rw[b0,b1,b2,b3,b4,b5,b6,b7];rfl
  have hc3:(c3 (L.length-1-2-2-2-1-1-8) (frF L (L.length-1-2-2-2-1-1-8)) (fsF L (L.length-1-2-2-2-1-1-8)) (L.length-1-2-2-2-1-1-8) ((L.length-1-2-2-2-1-1-8)-1) ((L.length-1-2-2-2-1-1-8)-1) ((L.length-1-2-2-2-1-1-8)-1-wiK (fkF L (L.length-1-2-2-2-1-1-8))))≤L.length:=by
   unfold c3
   cases Nat.blt (L.length-1-2-2-2-1-1-8) 1<;>cases frF L (L.length-1-2-2-2-1-1-8)<;>cases fsF L (L.length-1-2-2-2-1-1-8)<;>simp<;>omega
  have hd:(bif Nat.blt (L.length-1-2-2-2-1-1-8) 1 then 0 else 0)≤1:=by cases Nat.blt (L.length-1-2-2-2-1-1-8) 1<;>decide
  refine nd_ (a7_ hL hl (by omega) (Nat.zero_le _)) (nd_ (a7_ hL hl hc3 hd) ?_)
  exact⟨l9_ (m:=⟨hfK L L.length 1,hfK L (L.length-1) 2,hfK L (L.length-1-2-2-2) 1,hfK L (L.length-1-2) 2,hfK L (L.length-1-2-2) 2,Int.ofNat (beN L (L.length-(L.length-1-2-2-2-1)) 1) !=(0:Int),hfK L (L.length-1-2-2-2-1-1) 8,⟨c3 (L.length-1-2-2-2-1-1-8) (frF L (L.length-1-2-2-2-1-1-8)) (fsF L (L.length-1-2-2-2-1-1-8)) 0 0 (fkF L (L.length-1-2-2-2-1-1-8)) (fkF L (L.length-1-2-2-2-1-1-8)),c3 (L.length-1-2-2-2-1-1-8) (frF L (L.length-1-2-2-2-1-1-8)) (fsF L (L.length-1-2-2-2-1-1-8)) 0 0 (tkI (fkF L (L.length-1-2-2-2-1-1-8)) []) (tkI (fkF L (L.length-1-2-2-2-1-1-8)) (fpF L (L.length-1-2-2-2-1-1-8))),c3 (L.length-1-2-2-2-1-1-8) (frF L (L.length-1-2-2-2-1-1-8)) (fsF L (L.length-1-2-2-2-1-1-8)) 0 0 (tkF (fkF L (L.length-1-2-2-2-1-1-8)) []) (tkF (fkF L (L.length-1-2-2-2-1-1-8)) (fpF L (L.length-1-2-2-2-1-1-8)))⟩,[],1,[],1⟩) hβ hL hl hc3 hd hT,hR⟩
 have b7:(fvF true).bd L (nH7 L)=false:=b7
 have hT:d5_ L=tk0 L:=by unfold d5_;rw[b0,b1,b2,b3,b4,b5,b6,b7];rfl
 have hn8:nH8 L≤L.length:=by
  show vnF L (L.length-1-2-2-2-1-1-8)≤L.length
  unfold vnF
  cases fkF L (L.length-1-2-2-2-1-1-8)==0<;>simp<;>omega
 refine a0_ (fun b8=>nd_ (a7_ hL hl hn8 (Nat.zero_le _)) ?_) (fun b8=>nd_ (a7_ hL hl hn8 (Nat.zero_le _)) ?_)
 ·have b8:Nat.blt (nH8 L) 1=true:=b8
  have hT2:d5_ L=none:=by rw[hT];unfold tk0;rw[b8];rfl
  exact⟨l9_ (m:=hdH L) hβ hL hl hn8 (Nat.zero_le _) hT2,hR⟩
 ·have b8:Nat.blt (nH8 L) 1=false:=b8
  exact⟨ahy_ hβ hL hl hT b8 hn8,hR⟩
def adU_:Told:=toldZ4.tree 11 (okA1 (Rw U8) fun r=>r.l.all (okA U8)) (j4_ (Rw U8) fun r=>H7_ (d5_ r.l))
theorem adT_:a9_ Tryz.prog adU_:=Told.tree_ok toldZ4_ok ahz_
def lG(l:List U8)(c:Nat):List U8:=a3_ U8 (Td.fr 1 (List.length l) c fun i=>encL l (0+i))
theorem apH_(l a m:List U8)(c d e:Nat)(β:Bs):lawE Tryz.prog adU_ 100 20 β (fun _=>0) (cnOf 3 fun _=>[]) (fun _ _=>False) 4 [.slice (some ⟨0,0,some 0⟩) l.length c,.slice (some ⟨1,0,some 0⟩) a.length d,.slice (some ⟨2,0,some 0⟩) m.length e] (mkS [some (rowO .still l),some (rowO .still a),some (rowO .still m)]) adR_=
 (fun(z5 z7:List Ms) (z6:Td) (z8:List Wt) (z12 z19:Value) (z18:List U8) (z20 z21:Nat)=>((fun(z4:List Td) (z9 z14 z15:Bool) (z10 z11:Td) (z13:Nat)=>((fun(z2:List Td) (z17:Bool)=>((fun(z0:Ss)=>((fun(z16 z22 z23 z24:Nat)=>((fun(z3:List Td)=>((fun(z1:Prop)=>(br (decide (Int.ofNat z20>(60:Int))) True (br (decide (Int.ofNat z21>(60:Int))) True (br (decide (Int.ofNat m.length>(20:Int))) True (need (true&&Nat.ble (0+List.length l) z20) (need (okA1 (Rw U8) (fun r=>List.all (Rw.l r) (okA U8)) [Ta.cell (.fr 1 z20 c fun i=>encL l (0+i))]) (br (!decide (Prod.fst (onQ (lG l c))>(0:Int))) (need z17 (need z14 (need z15 (need z9 (need (okA3 (Sc Ss) (Rw U8) Int (fun s b x=>fitC (Sc.x s) (Rw.l b)) [Ta.agg z2,Ta.cell z10,Ta.cell z6]) (need (!Ss.on (comeF tkMs (Enc.dec (nthT z2)) (lG a d) (ArgE.get (Ta.cell z6)))) True)))))) (need z9 (need (okA1 (Rw U8) (fun r=>List.all (Rw.l r) (okA U8)) [Ta.cell z10]) (need z9 (need (ok1 U8 (fun l x=>List.all l (okA U8)) [Ta.cell z10]) (need z17 (need z14 (need z15 (need (true&&Nat.ble (0+List.length z18) z18.length) (need (okA3 (Sc Ss) (Rw U8) Int (fun s b x=>fitC (Sc.x s) (Rw.l b)) [Ta.agg z2,Ta.cell z11,Ta.cell z6]) (br (Option.isSome (d5_ (lG a d))) (br (decide (Ms.k (Option.getD (d5_ (lG a d)) zMs)≤(5:Int))) (need (Ss.on z0==decide (Int.ofNat z13<(6:Int))) (br (!Ss.on z0) True (need (Int.ofNat z16==IntKind.wrap .i64 (Int.ofNat z13+(1:Int))) True))) z1) z1))))))))))))))))) (need (true&&Nat.ble (0+List.length (Ss.fb z0)) z24) (need (true&&Nat.ble (0+List.length (Ss.ins z0)) z16) (need (true&&Nat.ble (0+List.length (Ss.out z0)) z22) (need (true&&Nat.ble (0+List.length (Ss.sub z0)) z23) (need (okA2 (Sc Ss) (Sc Ss) (fun x x_1=>true) [Ta.agg z3,Ta.agg z4]) (need (i7_ (Enc.dec (nthT z3)) (Enc.dec (nthT z4))) True)))))))) [.sc (.bool (Ss.on z0)),.sc (.int .i64 (Ss.se z0)),.fr 1 z24 (Ss.cfb z0) fun i=>encL (Ss.fb z0) (0+i),.sc (.bool (Ss.ba z0)),.fr 12 z16 (Ss.cins z0) fun i=>encL (Ss.ins z0) (0+i),.fr 12 z22 (Ss.cout z0) fun i=>encL (Ss.out z0) (0+i),.fr 15 z23 (Ss.csub z0) fun i=>encL (Ss.sub z0) (0+i),.sc (.int .i64 (Ss.num z0))])) (List.length (Ss.ins z0)) (List.length (Ss.out z0)) (List.length (Ss.sub z0)) (List.length (Ss.fb z0)))) (comeF tkMs (Enc.dec (nthT z2)) (a3_ U8 z11) (ArgE.get (Ta.cell z6))))) [.sc (.bool (decide (Prod.fst (onQ (lG l c))>(0:Int)))),.sc (.int .i64 (Prod.fst (seP (lG l c)))),.fr 1 (List.length ([]:List U8)) 1 fun i=>encL ([]:List U8) (0+i),.sc z19,.fr 12 z13 1 fun i=>encL z5 (0+i),.fr 12 z7.length 1 fun i=>encL z7 (0+i),.fr 15 z8.length 1 fun i=>encL z8 (0+i),.sc z12] (true&&Nat.ble (0+List.length z5) z13))) [.sc z19,.sc z12,.fr 0 0 1 noT,.sc z19,.fr 0 0 1 noT,.fr 0 0 1 noT,.fr 0 0 1 noT,.sc z12] (true&&Nat.ble (0+List.length a) z21) (true&&Nat.ble (0+List.length z7) z7.length) (true&&Nat.ble (0+List.length z8) z8.length) (.fr 1 z21 d fun i=>encL a (0+i)) (.fr 1 z18.length 1 fun i=>encL z18 (0+i)) z5.length)) (Prod.fst (inP (lG l c))) (Prod.fst (ouP (lG l c))) (.sc (.int .i64 (5:Int))) (Prod.fst (suP (lG l c))) (.int .i64 (0:Int)) (.bool false) (putL (lG a d)) l.length a.length:=by kernel_rfl
theorem RT.nx_q{s:RT}{k:Nat}(h:s.q=true):(s.nx k).q=true:=by
 show bdK k s.n s.q=true
 unfold bdK;rw[h];rfl
theorem aqb_{L:List U8}{s:RT}(h:s.q=true):(rvS L s).q=true:=by
 have h0:(rvK L s==0)=true:=by
  show(vlK 1 L s.n s.q==0)=true
  unfold vlK bdK;rw[h];rfl
 unfold rvS
 rw[h0]
 exact RT.nx_q h
theorem aoD_{L:List U8}: ∀(r:Nat) (s:RT) (ps:List St),s.q=true→(psL L r s ps).2.q=true
 |0,s,ps,h=>h
 |r+1,s,ps,h=>by unfold psL;rw[h];exact h
theorem anx_{L:List U8}: ∀(r:Nat) (s:RT) (vs:List Vl),s.q=true→(vsL L r s vs).2.q=true
 |0,s,vs,h=>h
 |r+1,s,vs,h=>by unfold vsL;rw[h];exact h
theorem ahk_{L:List U8}(h:(vsT L).2.q=true):d8_ L=none:=by unfold d8_;rw[h];rfl
theorem aeh_{L:List U8}(h:(tA L).q=true):d8_ L=none:=ahk_ (anx_ _ _ _ h)
theorem abF_{L:List U8}(h:(psT L).2.q=true):d8_ L=none:=aeh_ (RT.nx_q h)
theorem aei_{L:List U8}(h:(t9 L).q=true):d8_ L=none:=abF_ (aoD_ _ _ _ h)
theorem M3_{L:List U8}(h:(t8 L).q=true):d8_ L=none:=aei_ (RT.nx_q h)
theorem aej_{L:List U8}(h:(t7 L).q=true):d8_ L=none:=M3_ (aqb_ h)
theorem p7_(k n:Nat):bdK k n false=Nat.blt n k:=by
 unfold bdK
 rw[Bool.false_or,Bool.eq_iff_iff]
 simp
theorem x7_{n k:Nat}(h:Nat.blt n k=false):(⟨n,false⟩:RT).nx k=⟨n-k,false⟩:=by
 show(⟨n-k,bdK k n false⟩:RT)=_
 rw[p7_,h]
theorem o4_{n k:Nat}(h:Nat.blt n k=true):((⟨n,false⟩:RT).nx k).q=true:=by
 show bdK k n false=true
 rw[p7_,h]
theorem alm_{L:List U8}(h0:Nat.blt L.length 1=false):t1 L=⟨L.length-1,false⟩:=x7_ h0
theorem all_{L:List U8}(h0:Nat.blt L.length 1=false)(h1:Nat.blt (L.length-1) 2=false):t2 L=⟨L.length-1-2,false⟩:=by
 show(t1 L).nx 2=_
 rw[alm_ h0,x7_ h1]
theorem alk_{L:List U8}(h0:Nat.blt L.length 1=false)(h1:Nat.blt (L.length-1) 2=false)(h2:Nat.blt (L.length-1-2) 2=false):t3 L=⟨L.length-1-2-2,false⟩:=by
 show(t2 L).nx 2=_
 rw[all_ h0 h1,x7_ h2]
theorem alj_{L:List U8}(h0:Nat.blt L.length 1=false)(h1:Nat.blt (L.length-1) 2=false)(h2:Nat.blt (L.length-1-2) 2=false)(h3:Nat.blt (L.length-1-2-2) 2=false):t4 L=⟨L.length-1-2-2-2,false⟩:=by
 show(t3 L).nx 2=_
 rw[alk_ h0 h1 h2,x7_ h3]
theorem ali_{L:List U8}(h0:Nat.blt L.length 1=false)(h1:Nat.blt (L.length-1) 2=false)(h2:Nat.blt (L.length-1-2) 2=false)(h3:Nat.blt (L.length-1-2-2) 2=false)(h4:Nat.blt (L.length-1-2-2-2) 1=false):t5 L=⟨L.length-1-2-2-2-1,false⟩:=by
 show(t4 L).nx 1=_
 rw[alj_ h0 h1 h2 h3,x7_ h4]
theorem alh_{L:List U8}(h0:Nat.blt L.length 1=false)(h1:Nat.blt (L.length-1) 2=false)(h2:Nat.blt (L.length-1-2) 2=false)(h3:Nat.blt (L.length-1-2-2) 2=false)(h4:Nat.blt (L.length-1-2-2-2) 1=false)(h5:Nat.blt (L.length-1-2-2-2-1) 1=false):t6' L=⟨L.length-1-2-2-2-1-1,false⟩:=by
 show(t5 L).nx 1=_
 rw[ali_ h0 h1 h2 h3 h4,x7_ h5]
theorem apX_{L:List U8}(h0:Nat.blt L.length 1=false)(h1:Nat.blt (L.length-1) 2=false)(h2:Nat.blt (L.length-1-2) 2=false)(h3:Nat.blt (L.length-1-2-2) 2=false)(h4:Nat.blt (L.length-1-2-2-2) 1=false)(h5:Nat.blt (L.length-1-2-2-2-1) 1=false)(h6:Nat.blt (L.length-1-2-2-2-1-1) 8=false):t7 L=⟨nH7 L,false⟩:=by
 show(t6' L).nx 8=_
 rw[alh_ h0 h1 h2 h3 h4 h5,x7_ h6];rfl
theorem up6{L:List U8}(h:(t6' L).q=true):d8_ L=none:=aej_ (RT.nx_q h)
theorem up5{L:List U8}(h:(t5 L).q=true):d8_ L=none:=up6 (RT.nx_q h)
theorem up4{L:List U8}(h:(t4 L).q=true):d8_ L=none:=up5 (RT.nx_q h)
theorem up3{L:List U8}(h:(t3 L).q=true):d8_ L=none:=up4 (RT.nx_q h)
theorem up2{L:List U8}(h:(t2 L).q=true):d8_ L=none:=up3 (RT.nx_q h)
theorem up1{L:List U8}(h:(t1 L).q=true):d8_ L=none:=up2 (RT.nx_q h)
theorem takeR_head{L:List U8}:(d5_ L=none∧d8_ L=none)∨(t7 L=⟨nH7 L,false⟩∧18≤L.length+1∧d5_ L=cond ((fvF true).bd L (nH7 L)) none (tk0 L)):=by
 unfold d5_
 cases h0:Nat.blt L.length 1 with
 |true=>exact .inl ⟨rfl,up1 (o4_ h0)⟩
 |false=>
 cases h1:Nat.blt (L.length-1) 2 with
 |true=>exact .inl ⟨rfl,up2 (by show((t1 L).nx 2).q=true;rw[alm_ h0];exact o4_ h1)⟩
 |false=>
 cases h2:Nat.blt (L.length-1-2) 2 with
 |true=>exact .inl ⟨rfl,up3 (by show((t2 L).nx 2).q=true;rw[all_ h0 h1];exact o4_ h2)⟩
 |false=>
 cases h3:Nat.blt (L.length-1-2-2) 2 with
 |true=>exact .inl ⟨rfl,up4 (by show((t3 L).nx 2).q=true;rw[alk_ h0 h1 h2];exact o4_ h3)⟩
 |false=>
 cases h4:Nat.blt (L.length-1-2-2-2) 1 with
 |true=>exact .inl ⟨rfl,up5 (by show((t4 L).nx 1).q=true;rw[alj_ h0 h1 h2 h3];exact o4_ h4)⟩
 |false=>
 cases h5:Nat.blt (L.length-1-2-2-2-1) 1 with
 |true=>exact .inl ⟨rfl,up6 (by show((t5 L).nx 1).q=true;rw[ali_ h0 h1 h2 h3 h4];exact o4_ h5)⟩
 |false=>
 cases h6:Nat.blt (L.length-1-2-2-2-1-1) 8 with
 |true=>exact .inl ⟨rfl,aej_ (by show((t6' L).nx 8).q=true;rw[alh_ h0 h1 h2 h3 h4 h5];exact o4_ h6)⟩
 |false=>
  refine .inr ⟨apX_ h0 h1 h2 h3 h4 h5 h6,?_,rfl⟩
  rw[Bool.eq_false_iff]at h6
  have: ¬(L.length-1-2-2-2-1-1<8):=fun h=>h6 (by simp;omega)
  omega
theorem n8_{L:List U8}{n:Nat}(h:Nat.blt n 1=false):rvK L ⟨n,false⟩=fkF L n:=by
 show vlK 1 L n false=_
 unfold vlK
 rw[p7_,h];rfl
theorem T2_{L:List U8}{n:Nat}(h:Nat.blt n 1=true):(rvS L ⟨n,false⟩).q=true:=by
 have h0:(rvK L ⟨n,false⟩==0)=true:=by
  show(vlK 1 L n false==0)=true
  unfold vlK
  rw[p7_,h];rfl
 unfold rvS
 rw[h0]
 exact o4_ h
theorem ahO_{L:List U8}{n:Nat}(h:Nat.blt n 1=false)(h0:(fkF L n==0)=true):rvS L ⟨n,false⟩=⟨vnF L n,false⟩∧rvV L ⟨n,false⟩=vvF L n:=by
 have hk:=n8_ (L:=L) h
 constructor
 ·unfold rvS vnF
  rw[hk,h0]
  exact x7_ h
 ·unfold rvV vvF rvI rvG
  rw[hk,h0]
  have:=eq_of_beq h0
  rw[this];rfl
theorem T3_{L:List U8}{n:Nat}(hL:L.all (okA U8)=true)(h:Nat.blt n 1=false)(h0:(fkF L n==0)=false)(hr:frF L n=true):(rvS L ⟨n,false⟩).q=true:=by
 have hk:=n8_ (L:=L) h
 have hf:=abX_ hL n
 unfold frF at hr
 rw[Bool.or_eq_true,decide_eq_true_eq,decide_eq_true_eq]at hr
 have hz:fkF L n≠0:=by intro e;rw[e]at h0;cases h0
 have hg:fkF L n>5:=by omega
 have e: ∀k:Int,k≤5→(fkF L n==k)=false:=fun k hk=>by rw[Bool.eq_false_iff];intro e;have:=eq_of_beq e;omega
 unfold rvS
 rw[hk,h0,e 1 (by omega),e 2 (by omega),e 3 (by omega),e 4 (by omega),e 5 (by omega)]
 rfl
theorem r4_{L:List U8}{n:Nat}(hL:L.all (okA U8)=true)(h0:(fkF L n==0)=false)(hr:frF L n=false):fkF L n=1∨fkF L n=2∨fkF L n=3∨fkF L n=4∨fkF L n=5:=by
 have hf:=abX_ hL n
 unfold frF at hr
 rw[Bool.or_eq_false_iff]at hr
 have h1:=of_decide_eq_false hr.1
 have h2:=of_decide_eq_false hr.2
 omega
theorem aox_{L:List U8}{n:Nat}(h:Nat.blt n 1=false){k:Int}(hk:fkF L n=k)(hc:k=1∨k=2∨k=3∨k=4∨k=5):rvS L ⟨n,false⟩=(⟨n-1,false⟩:RT).nx (wiK k):=by
 have e:=n8_ (L:=L) h
 unfold rvS
 rw[e,hk]
 have hn:=x7_ h
 rcases hc with rfl|rfl|rfl|rfl|rfl<;>(show RT.nx _ (RT.nx 1 ⟨n,false⟩)=_;rw[hn];rfl)
theorem aeE_{L:List U8}{n:Nat}(hL:L.all (okA U8)=true)(h:Nat.blt n 1=false)(h0:(fkF L n==0)=false)(hr:frF L n=false)(hs:fsF L n=true):(rvS L ⟨n,false⟩).q=true:=by
 rw[aox_ h rfl (r4_ hL h0 hr)]
 exact o4_ hs
theorem M8_{L:List U8}{n:Nat}(hL:L.all (okA U8)=true)(h:Nat.blt n 1=false)(h0:(fkF L n==0)=false)(hr:frF L n=false)(hs:fsF L n=false):rvS L ⟨n,false⟩=⟨vnF L n,false⟩:=by
 rw[aox_ h rfl (r4_ hL h0 hr),x7_ hs]
 unfold vnF
 rw[h0];rfl
theorem k4_{L:List U8}{n w:Nat}(h:Nat.blt n 1=false)(hs:Nat.blt (n-1) w=false):((⟨n,false⟩:RT).nx 1).vl w L=IntKind.wrap .i64 ((beN L (L.length-(n-1)) w:Nat):Int):=by
 rw[x7_ h]
 show vlK w L (n-1) false=_
 unfold vlK
 rw[p7_,hs];rfl
theorem ajO_(L:List U8)(i:Nat):tkU (mdL L i 1)=beN L i 1∧tkU (mdL L i 2)=beN L i 2∧tkU (mdL L i 4)=beN L i 4∧tkU (mdL L i 8)=beN L i 8:=⟨rfl,rfl,rfl,rfl⟩
theorem fp_w{L:List U8}{n:Nat}{k:Int}(hk:fkF L n=k):fpF L n=mdL L (L.length-(n-1)) (wiK k):=by unfold fpF;rw[hk]
theorem M7_{L:List U8}{n:Nat}(hL:L.all (okA U8)=true)(h:Nat.blt n 1=false)(h0:(fkF L n==0)=false)(hr:frF L n=false)(hs:fsF L n=false)(hq:tkQ (fkF L n) (fpF L n)=true):rvV L ⟨n,false⟩=vvF L n:=by
 have e:=n8_ (L:=L) h
 have hc:=r4_ hL h0 hr
 obtain⟨u1,u2,u4,u8⟩:=ajO_ L (L.length-(n-1))
 have hI:rvI L ⟨n,false⟩=tkI (fkF L n) (fpF L n):=by
  unfold rvI tkI
  rw[e]
  unfold fsF at hs
  rcases hc with hc|hc|hc|hc|hc
  ·rw[fp_w hc,hc]at hq ⊢
   rw[hc]at hs
   have hv:=k4_ (L:=L) (w:=1) h hs
   show((⟨n,false⟩:RT).nx 1).vl 1 L=wrF 1 (IntKind.wrap .i64 (tkU (mdL L (L.length-(n-1)) 1):Int))
   have hb:=p6_ hL (L.length-(n-1)) 1
   rw[hv,u1]
   have hbb:beN L (L.length-(n-1)) 1<256:=hb
   rw[w64 (by omega) (by omega)]
   by_cases hz:beN L (L.length-(n-1)) 1=0
   ·rw[hz];rfl
   have hI1:tkI 1 (mdL L (L.length-(n-1)) 1)=1:=by
    show wrF 1 (IntKind.wrap .i64 (tkU (mdL L (L.length-(n-1)) 1):Int))=1
    rw[u1,w64 (by omega) (by omega)]
    show(if((beN L (L.length-(n-1)) 1:Nat):Int)=0 then(0:Int)else 1)=1
    rw[if_neg (by omega)]
   have hd:(h8_ (rwL (tkV 1 (mdL L (L.length-(n-1)) 1)))==h8_ (mdL L (L.length-(n-1)) 1))=true:=hq
   have hr1:rwL (tkV 1 (mdL L (L.length-(n-1)) 1))=hi1 (IntKind.wrap .u64 (tkI 1 (mdL L (L.length-(n-1)) 1))):=rfl
   rw[hr1,hI1]at hd
   have hm:(mdL L (L.length-(n-1)) 1).all (okA U8)=true:=by
    show(okA U8 (L.getD (L.length-(n-1)+0) Enc.dflt)&&true)=true
    rw[Bool.and_true]
    have h2:=b64 hL (L.length-(n-1)+0)
    have h3:=byUa hL (L.length-(n-1)+0)
    rw[s7_]
    omega
   rw[y6_ (by decide) hm,q6_]at hd
   have hd2:[(⟨1⟩:U8)]=[L.getD (L.length-(n-1)+0) Enc.dflt]:=hd
   have hv1:(L.getD (L.length-(n-1)+0) Enc.dflt).v=1:=by
    have:=(List.cons.inj hd2).1
    rw[←this]
   have h3:=byUa hL (L.length-(n-1)+0)
   rw[hv1]at h3
   have hbe:beN L (L.length-(n-1)) 1=0*256+byA L (L.length-(n-1)+0):=rfl
   have:beN L (L.length-(n-1)) 1=1:=by omega
   rw[this];rfl
  ·rw[fp_w hc,hc]
   rw[hc]at hs
   have hv:=k4_ (L:=L) (w:=2) h hs
   show IntKind.wrap .i64 (IntKind.wrap .i16 (((⟨n,false⟩:RT).nx 1).vl 2 L))=wrF 2 (IntKind.wrap .i64 (tkU (mdL L (L.length-(n-1)) 2):Int))
   rw[hv,u2]
   show _=IntKind.wrap .i16 _
   have: ∀x:Int,IntKind.wrap .i64 (IntKind.wrap .i16 x)=IntKind.wrap .i16 x:=fun x=>by
    unfold IntKind.wrap
    simp[IntKind.signed,IntKind.bits]
    omega
   exact this _
  ·rw[fp_w hc,hc]
   rw[hc]at hs
   have hv:=k4_ (L:=L) (w:=4) h hs
   show IntKind.wrap .i64 (IntKind.wrap .i32 (((⟨n,false⟩:RT).nx 1).vl 4 L))=wrF 3 (IntKind.wrap .i64 (tkU (mdL L (L.length-(n-1)) 4):Int))
   rw[hv,u4]
   show _=IntKind.wrap .i32 _
   have: ∀x:Int,IntKind.wrap .i64 (IntKind.wrap .i32 x)=IntKind.wrap .i32 x:=fun x=>by
    unfold IntKind.wrap
    simp[IntKind.signed,IntKind.bits]
    omega
   exact this _
  ·rw[fp_w hc,hc]
   rw[hc]at hs
   have hv:=k4_ (L:=L) (w:=8) h hs
   show((⟨n,false⟩:RT).nx 1).vl 8 L=wrF 4 (IntKind.wrap .i64 (tkU (mdL L (L.length-(n-1)) 8):Int))
   rw[hv,u8];rfl
  ·rw[hc];rfl
 have hG:rvG L ⟨n,false⟩=tkF (fkF L n) (fpF L n):=by
  unfold rvG tkF
  rw[e]
  unfold fsF at hs
  rcases hc with hc|hc|hc|hc|hc
  ·rw[hc];rfl
  ·rw[hc];rfl
  ·rw[hc];rfl
  ·rw[hc];rfl
  ·rw[fp_w hc,hc]
   rw[hc]at hs
   have hv:=k4_ (L:=L) (w:=8) h hs
   have hb:=p6_ hL (L.length-(n-1)) 8
   show Int.toNat (IntKind.wrap .u64 (((⟨n,false⟩:RT).nx 1).vl 8 L))=tkU (mdL L (L.length-(n-1)) 8)
   rw[hv,u8]
   have: ∀x:Nat,x<18446744073709551616→IntKind.wrap .u64 (IntKind.wrap .i64 (x:Int))=x:=fun x hx=>by
    unfold IntKind.wrap
    simp[IntKind.signed,IntKind.bits]
    omega
   rw[this _ hb];rfl
 unfold rvV vvF
 rw[e,hI,hG,h0];rfl
theorem ahb_{α:Type}[Enc α](l:List α)(p:α→Bool):((List.range l.length).all fun i=>p (l.getD i Enc.dflt))=l.all p:=by
 rw[Bool.eq_iff_iff,List.all_eq_true,List.all_eq_true]
 constructor
 ·intro h x hx
  obtain⟨i,hi,rfl⟩:=List.getElem_of_mem hx
  have:=h i (List.mem_range.2 hi)
  simpa [List.getD,hi]using this
 ·intro h i hi
  have hi:=List.mem_range.1 hi
  have:=h l[i] (List.getElem_mem hi)
  simpa [List.getD,hi]using this
theorem agZ_{α:Type}[Enc α](l:List α)(p q:α→Bool)(h: ∀x∈l,q x= !p x):decide (fstN (fun i=>q (l.getD i Enc.dflt)) l.length 0≥0)= !(l.all p):=by
 rw[P0_,←ahb_ l p]
 have:((List.range l.length).any fun j=>q (l.getD (0+j) Enc.dflt))=((List.range l.length).any fun j=> !(p (l.getD j Enc.dflt))):=by
  rw[Bool.eq_iff_iff,List.any_eq_true,List.any_eq_true]
  constructor
  ·rintro⟨i,hi,h1⟩
   have hi':=List.mem_range.1 hi
   refine⟨i,hi,?_⟩
   rw[Nat.zero_add,h _ (by simp[List.getD,hi'])]at h1
   exact h1
  ·rintro⟨i,hi,h1⟩
   have hi':=List.mem_range.1 hi
   refine⟨i,hi,?_⟩
   rw[Nat.zero_add,h _ (by simp[List.getD,hi'])]
   exact h1
 rw[this,List.not_all_eq_any_not]
theorem anl_(m:Ms):anyP m= !pOkB m:=by
 refine agZ_ m.ps _ _ fun s _=> ?_
 unfold badP
 cases decide (Int.ofNat s.s.size<1)<;>cases decide (Int.ofNat s.s.size>20)<;>rfl
theorem ank_(m:Ms)(h: ∀v∈m.vs,i0_ v=mvB v.k v.i v.f):anyV m= !vOkB m:=by
 refine agZ_ m.vs _ _ fun v hv=> ?_
 unfold badV
 rw[h v hv]
theorem ord0:(Ieee.Format.order (FloatKind.format .f64) 0 0==some Ordering.eq)=true:=by kernel_rfl
theorem ordI:(!Ieee.Format.order (FloatKind.format .f64) (ariR .f64 .quo 4607182418800017408 0) 0==some Ordering.gt)=false:=by kernel_rfl
theorem ajD_(x:Int):IntKind.wrap .i64 (IntKind.wrap .i16 x)=IntKind.wrap .i16 x:=by
 unfold IntKind.wrap
 simp[IntKind.signed,IntKind.bits]
 omega
theorem ajC_(x:Int):IntKind.wrap .i64 (IntKind.wrap .i32 x)=IntKind.wrap .i32 x:=by
 unfold IntKind.wrap
 simp[IntKind.signed,IntKind.bits]
 omega
theorem V8_{v:Vl}(hf:v.k≠5→v.f=0):i0_ v=mvB v.k v.i v.f:=by
 obtain⟨k,i,f⟩:=v
 have hf:k≠5→f=0:=hf
 unfold i0_ mvB
 cases h5:k==5 with
 |true=>rfl
 |false=>
  have h5':k≠5:=by intro e;rw[e]at h5;cases h5
  have:=hf h5'
  subst this
  have hb:(Int.ofNat (bitsN 0)==0)=true:=rfl
  simp only[ord0,ordI,hb,cond_true,cond_false,Bool.and_true]
  by_cases h1:k=1
  ·subst h1
   by_cases hi:i=0
   ·subst hi;rfl
   ·have e:(i==0)=false:=by simpa using hi
    show cond (i==0) true (i==1)=(true&&((if i=0 then(0:Int)else 1)==i))
    rw[e,if_neg hi,Bool.true_and,cond_false,Bool.eq_iff_iff,beq_iff_eq,beq_iff_eq]
    exact⟨fun h=>h.symm,fun h=>h.symm⟩
  by_cases h2:k=2
  ·subst h2
   show(i==IntKind.wrap .i64 (IntKind.wrap .i16 i))=(true&&(IntKind.wrap .i16 i==i))
   rw[ajD_,Bool.true_and,Bool.eq_iff_iff,beq_iff_eq,beq_iff_eq]
   exact⟨fun h=>h.symm,fun h=>h.symm⟩
  by_cases h3:k=3
  ·subst h3
   show(i==IntKind.wrap .i64 (IntKind.wrap .i32 i))=(true&&(IntKind.wrap .i32 i==i))
   rw[ajC_,Bool.true_and,Bool.eq_iff_iff,beq_iff_eq,beq_iff_eq]
   exact⟨fun h=>h.symm,fun h=>h.symm⟩
  by_cases h4:k=4
  ·subst h4
   show true=(true&&(i==i))
   rw[beq_self_eq_true];rfl
  have e1:(k==1)=false:=by simpa using h1
  have e2:(k==2)=false:=by simpa using h2
  have e3:(k==3)=false:=by simpa using h3
  have e4:(k==4)=false:=by simpa using h4
  have e6:(decide (k≥1)&&decide (k≤5))=false:=by
   rw[Bool.and_eq_false_iff]
   by_cases h:k≥1
   ·exact .inr (decide_eq_false (by omega))
   ·exact .inl (decide_eq_false h)
  simp only[e1,e2,e3,e4,e6,cond_false,Bool.false_and]
theorem anb_{v:Vl}(hf:v.k≠5→v.f=0):bdOk v=(zQ v||i0_ v):=by
 unfold bdOk zQ
 rw[V8_ hf]
 cases h:v.k==0 with
 |false=>rfl
 |true=>
  have hk:=eq_of_beq h
  have hm:mvB v.k v.i v.f=false:=by
   unfold mvB
   rw[hk];rfl
  rw[hm,Bool.or_false]
  cases hi:v.i==0 with
  |true=>
   have hi:=eq_of_beq hi
   rw[hi]
   show(true&& !(Int.ofNat (bitsN v.f) !=0))=(Int.ofNat (bitsN v.f)==0)
   rw[Bool.true_and]
   unfold bne
   cases Int.ofNat (bitsN v.f)==0<;>rfl
  |false=>
   have:(v.i !=0)=true:=by simp[bne,hi]
   rw[this];rfl
theorem zN(f:Nat):j6_ 0 f=(Int.ofNat (bitsN f)==0):=by
 have hb:bitsN 0=0:=rfl
 unfold j6_
 rw[hb,Bool.eq_iff_iff,decide_eq_true_eq,beq_iff_eq]
 constructor
 ·intro h;rw[←h];rfl
 ·intro h
  simp only[Int.ofNat_eq_natCast]at h
  omega
theorem aol_{m:Ms}(hv: ∀v∈m.vs,v.k≠5→v.f=0)(hb:m.bd.k≠5→m.bd.f=0):tlQ m=(insB m.id&&insB m.n&&insB m.sq&&(decide (m.ev≥0)&&decide (m.ev≤1125899906842624))&&(decide (m.er≥0)&&decide (m.er≤13))&& !decide (Int.ofNat m.ps.length>5)&&pOkB m&& !decide (Int.ofNat m.vs.length>5)&&vOkB m&&bdOk m.bd):=by
 have hP:=anl_ m
 have hV:=ank_ m fun v h=>V8_ (hv v h)
 have hB:=anb_ hb
 unfold tlQ insB
 rw[hP,hV,hB]
 cases decide (m.id≥0)<;>cases decide (m.id≤65535)<;>try rfl
 cases decide (m.n≥0)<;>cases decide (m.n≤65535)<;>try rfl
 cases decide (m.sq≥0)<;>cases decide (m.sq≤65535)<;>try rfl
 cases decide (m.ev≥0)<;>cases decide (m.ev≤1125899906842624)<;>try rfl
 cases decide (m.er≥0)<;>cases decide (m.er≤13)<;>try rfl
 cases decide (Int.ofNat m.ps.length>5)<;>cases pOkB m<;>try rfl
 cases decide (Int.ofNat m.vs.length>5)<;>cases vOkB m<;>try rfl
end Go.Proofs.YtachglcffimmeaaGreat.Ev
