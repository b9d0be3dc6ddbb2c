/-
  annunciatorref16.TakeMsg: told.
-/
import Derived.Test.YtachglcffimmeaaGreatR33
set_option linter.unusedVariables false
set_option linter.unusedSimpArgs false
set_option maxRecDepth 1000000
namespace Go.Proofs.YtachglcffimmeaaGreat.Ev
open Go Go.Proofs Go.RowKit
def hfK(L:List U8)(n w:Nat):Int:=IntKind.wrap .i64 (Int.ofNat (beN L (L.length-n) w))
def nH7(L:List U8):Nat:=L.length-1-2-2-2-1-1-8
def nH8(L:List U8):Nat:=vnF L (nH7 L)
def hdH(L:List U8):Ms:=⟨hfK L (L.length) 1,hfK L (L.length-1) 2,hfK L (L.length-1-2-2-2) 1,hfK L (L.length-1-2) 2,hfK L (L.length-1-2-2) 2,Int.ofNat (beN L (L.length-(L.length-1-2-2-2-1)) 1) !=(0:Int),hfK L (L.length-1-2-2-2-1-1) 8,vvF L (nH7 L),[],1,[],1⟩
def tk2(L:List U8)(m:Ms):Option Ms:=cond (Int.ofNat L.length==0) none (cond (!(f9_ (pmL m) L)) none (some m))
def tk1(L:List U8)(m:Ms)(n:Nat):Option Ms:=cond (Nat.blt n 1) none (match vfL L (beN L (L.length-n) 1) (n-1) []with
 |none=>none
 |some (vs,_)=>tk2 L (k9_ m m.ps vs))
def tk0(L:List U8):Option Ms:=cond (Nat.blt (nH8 L) 1) none (match pfL L (beN L (L.length-nH8 L) 1) (nH8 L-1) []with
 |none=>none
 |some (ps,n)=>tk1 L (i3_ (hdH L) ps) n)
def e2_(L:List U8):Option Ms:=cond (Nat.blt (L.length) 1) none (cond (Nat.blt (L.length-1) 2) none (cond (Nat.blt (L.length-1-2) 2) none (cond (Nat.blt (L.length-1-2-2) 2) none (cond (Nat.blt (L.length-1-2-2-2) 1) none (cond (Nat.blt (L.length-1-2-2-2-1) 1) none (cond (Nat.blt (L.length-1-2-2-2-1-1) 8) none (cond ((fvF true).bd L (nH7 L)) none (tk0 L))))))))
def GbH(L:List U8)(n d:Nat):Prop:=n≤L.length∧d≤1∧e2_ L=none
def G1H(L:List U8)(m:Ms)(n:Nat):Prop:=n≤L.length∧e2_ L=tk1 L m n∧m.ps.length≤1000∧m=i3_ m m.ps
def G2H(L:List U8)(m:Ms)(n:Nat):Prop:=e2_ L=tk2 L m∧okA Ms m=true∧m=k9_ m m.ps m.vs
def exHH(L:List U8)(c:Nat):Nat→Kt→Prop:=exH L c (GbH L) (G1H L) (G2H L)
theorem aeO_{L:List U8}{c:Nat}(hL:L.all (okA U8)=true)(hl:L.length≤1000000)(hc:c≤1):rfB (some (.row .look 1 0 L.length (encL L))) 0 L.length c=true:=by
 have:=a7_ hL hl (Nat.le_refl _) hc
 rw[Nat.sub_self]at this;exact this
theorem m7_{L:List U8}{c n d:Nat}{m:Ms}{β:Bs}(hβ:β.X.length=1)(hL:L.all (okA U8)=true)(hl:L.length≤1000000)(hn:n≤L.length)(hd:d≤1)(hT:e2_ L=none):
  LoopJ Tryz.prog β (exHH L c) 0 (a5_ Tryz.prog 11 0) (GT1 L c 0) (mkS [some (rowO .look L),some (.cells (msCs zMs nilV nilV) true 0),some (RfO L n d true),some (.cells (msCs m nilV nilV) true 0)]):=by
 have:=abu_ (c:=c) (m:=m) (ex:=exHH L c) (qq:=none) hβ hL hl ⟨0,n,d,true,[]⟩ ⟨hn,hd,by show 0≤1000;omega,(fun h=>by cases h),fun _=>rfl⟩ (fun K hK ps n d _ h1 h2=>hK.1 (i3_ m ps) n d ⟨h1,h2,hT⟩) (fun K hK ps n h=>by cases h)
 refine LoopJ.seen (f1:=GT1 L c ((0:Nat):Int)) (st1:=HS1 L n d true (i3_ m [])) ?_ this
 refine Seen.trans (Seen.void 1 (encL ([]:List St))) (Seen.objs rfl fun q o2 h=> ?_)
 match q,h with
 |0,h=>cases h;exact⟨_,rfl,rfl,fun _ _ _ h=>h⟩
 |1,h=>cases h;exact⟨_,rfl,rfl,fun _ _ _ h=>h⟩
 |2,h=>cases h;exact⟨_,rfl,rfl,fun _ _ _ h=>h⟩
 |3,h=>cases h;exact⟨_,rfl,rfl,fun _ _ _ h=>ObjR.nilCell (j:=10) (k:=4) rfl h⟩
 |4,h=>cases h;exact⟨_,rfl,rfl,fun _ _ _ h=>h⟩
 |_+5,h=>cases h
theorem abg_{L:List U8}{β:Bs}{m:Ms}{n d:Nat}{q:Bool}{F:AFr}:
  Seen β F (mkS [some (rowO .look L),some (.cells (msCs zMs nilV nilV) true 0),some (RfO L n d q),some (.cells (msCs m (.slice (some ⟨4,0,some 0⟩) m.ps.length 1) nilV) true 0),some (rowO .mine m.ps)]) F (HS2 L n d q (k9_ m m.ps [])):=by
 refine Seen.trans (Seen.void 3 (encL ([]:List Vl))) (Seen.objs rfl fun q o2 h=> ?_)
 match q,h with
 |0,h=>cases h;exact⟨_,rfl,rfl,fun _ _ _ h=>h⟩
 |1,h=>cases h;exact⟨_,rfl,rfl,fun _ _ _ h=>h⟩
 |2,h=>cases h;exact⟨_,rfl,rfl,fun _ _ _ h=>h⟩
 |3,h=>cases h;exact⟨_,rfl,rfl,fun _ _ _ h=>ObjR.nilCell (j:=11) (k:=5) rfl h⟩
 |4,h=>cases h;exact⟨_,rfl,rfl,fun _ _ _ h=>h⟩
 |5,h=>cases h;exact⟨_,rfl,rfl,fun _ _ _ h=>h⟩
 |_+6,h=>cases h
theorem aej_{L:List U8}{c n d:Nat}{m:Ms}{β:Bs}(hβ:β.X.length=1)(hL:L.all (okA U8)=true)(hl:L.length≤1000000)(hn:n≤L.length)(hd:d≤1)(hT:e2_ L=none):
  LoopJ Tryz.prog β (exHH L c) 2 (a5_ Tryz.prog 11 2) (GT2 L c 0) (mkS [some (rowO .look L),some (.cells (msCs zMs nilV nilV) true 0),some (RfO L n d true),some (.cells (msCs m (.slice (some ⟨4,0,some 0⟩) m.ps.length 1) nilV) true 0),some (rowO .mine m.ps)]):=by
 have:=abt_ (c:=c) (m:=m) (ps:=m.ps) (ex:=exHH L c) (qq:=none) hβ hL hl ⟨0,n,d,true,[]⟩ ⟨hn,hd,by show 0≤1000;omega,(fun h=>by cases h),fun _=>rfl⟩ (fun K hK vs n d _ h1 h2=>hK.1 (k9_ m m.ps vs) n d ⟨h1,h2,hT⟩) (fun K hK vs n h=>by cases h)
 exact LoopJ.seen (f1:=GT2 L c ((0:Nat):Int)) abg_ this
theorem decM(X:Ms)(h1:X.cps=1)(h2:X.cvs=1):(Enc.dec (nthT [Td.sc (.int .i64 X.k),Td.sc (.int .i64 X.id),Td.sc (.int .i64 X.er),Td.sc (.int .i64 X.n),Td.sc (.int .i64 X.sq),Td.sc (.bool X.lo),Td.sc (.int .i64 X.ev),Td.sc (.int .i64 X.bd.k),Td.sc (.int .i64 X.bd.i),Td.sc (.float .f64 X.bd.f),Td.fr 1 X.ps.length 1 fun i=>encL X.ps i,Td.fr 3 X.vs.length 1 fun i=>encL X.vs i]):Ms)=X:=by
 obtain⟨a1,a2,a3,a4,a5,a6,a7,⟨b1,b2,b3⟩,a9,a10,a11,a12⟩:=X
 have h1:a10=1:=h1
 have h2:a12=1:=h2
 subst h1 h2
 exact(dE_ _).1
theorem okSM(X:Ms)(h1:X.cps=1)(h2:X.cvs=1)(h:okA Ms X=true):okS1 Ms (fun _=>true) [.agg [Td.sc (.int .i64 X.k),Td.sc (.int .i64 X.id),Td.sc (.int .i64 X.er),Td.sc (.int .i64 X.n),Td.sc (.int .i64 X.sq),Td.sc (.bool X.lo),Td.sc (.int .i64 X.ev),Td.sc (.int .i64 X.bd.k),Td.sc (.int .i64 X.bd.i),Td.sc (.float .f64 X.bd.f),Td.fr 1 X.ps.length 1 fun i=>encL X.ps i,Td.fr 3 X.vs.length 1 fun i=>encL X.vs i]]=true:=by
 obtain⟨a1,a2,a3,a4,a5,a6,a7,⟨b1,b2,b3⟩,a9,a10,a11,a12⟩:=X
 have h1:a10=1:=h1
 have h2:a12=1:=h2
 subst h1 h2
 have:okS1 Ms (fun _=>true) [.agg (b1_ (⟨a1,a2,a3,a4,a5,a6,a7,⟨b1,b2,b3⟩,a9,1,a11,1⟩:Ms))]=true:=by
  show(Nat.beq (b1_ _).length (Enc.es Ms)&&Enc.ok Ms (nthT (b1_ _))&&true)=true
  rw[eL_,Nat.beq_refl,(dE_ (α:=Ms) _).2,h];rfl
 exact this
theorem adK_{L:List U8}: ∀(r n:Nat) (vs ws:List Vl) (k:Nat),vfL L r n vs=some (ws,k)→ws.length=vs.length+r
 |0,n,vs,ws,k,h=>by cases h;rfl
 |r+1,n,vs,ws,k,h=>by
  unfold vfL at h
  revert h
  cases vbF L n with
  |true=>intro h;cases h
  |false=>
   intro h
   have:=adK_ r _ _ ws k h
   rw[this];simp;omega
theorem afk_{L:List U8}: ∀(r n:Nat) (vs ws:List St) (k:Nat),pfL L r n vs=some (ws,k)→ws.length=vs.length+r
 |0,n,vs,ws,k,h=>by cases h;rfl
 |r+1,n,vs,ws,k,h=>by
  unfold pfL at h
  revert h
  cases pbF L n with
  |true=>intro h;cases h
  |false=>
   intro h
   have:=afk_ r _ _ ws k h
   rw[this];simp;omega
theorem anU_{L:List U8}{c:Nat}(hL:L.all (okA U8)=true)(hl:L.length≤1000000):TmF L (GbH L) (G2H L) (fun r q=> ∃m2,a6_ q m2∧ansE (aad_ (e2_ L)) r (mkS m2)):=by
 refine⟨fun m n d h=>tnl_ _ _ h.2.2,fun m n h=> ?_⟩
 obtain⟨h1,hok,hm⟩:=h
 have hc1:m.cps=1:=by rw[hm];rfl
 have hc2:m.cvs=1:=by rw[hm];rfl
 have hb:(j4_ (pmL m)==j4_ L)=f9_ (pmL m) L:=L7_ (ajQ_ m).1 hL
 simp only[Nat.zero_add,decM m hc1 hc2,Y3_,hb]
 refine a0_ (fun h2=>tnl_ _ _ (by rw[h1];unfold tk2;rw[h2];rfl)) (fun h2=>nd_ (by simp) (nd_ (by simp) (nd_ (okSM m hc1 hc2 hok) (nd_ (by simp) (nd_ (v9_ _ _) (nd_ (by simp) (nd_ (v9_ _ _) ?_)))))))
 refine a0_ (fun h3=>tnl_ _ _ (by rw[h1];unfold tk2;rw[h2,h3];rfl)) (fun h3=> ?_)
 exact I1_ _ m hc1 hc2 _ (by rw[h1];unfold tk2;rw[h2,h3];rfl)
theorem akU_{L:List U8}{c:Nat}{β:Bs}(hβ:β.X.length=1)(hL:L.all (okA U8)=true)(hl:L.length≤1000000):TmR L c (GbH L) (G1H L) (G2H L) β (fun r q=> ∃m2,a6_ q m2∧ansE (aad_ (e2_ L)) r (mkS m2)):=by
 have hF:=anU_ (c:=c) hL hl
 unfold TmR
 simp only[h7_,c7_]
 refine⟨fun m n d h=> ?_,fun m n h=> ?_⟩
 ·obtain⟨h1,h2,h3⟩:=h
  exact nd_ (a7_ hL hl h1 h2) ⟨aej_ hβ hL hl h1 h2 h3,hF⟩
 ·obtain⟨h1,h2,h3,h4⟩:=h
  refine a0_ (fun hb=> ?_) (fun hb=> ?_)
  ·have hT:e2_ L=none:=by rw[h2];unfold tk1;rw[hb];rfl
   exact nd_ (a7_ hL hl h1 (Nat.zero_le _)) ⟨aej_ hβ hL hl h1 (Nat.zero_le _) hT,hF⟩
  ·refine nd_ (a7_ hL hl h1 (Nat.zero_le _)) ⟨?_,hF⟩
   have hn1:=L8_ hb
   have hlt:=Y6_ hL (L.length-n) 1
   have:=abt_ (c:=c) (m:=m) (ps:=m.ps) (ex:=exHH L c) (qq:=vfL L (beN L (L.length-n) 1) (n-1) []) hβ hL hl ⟨beN L (L.length-n) 1,n-1,0,false,[]⟩ ⟨by show n-1≤_;omega,Nat.zero_le _,by show 0+beN L (L.length-n) 1≤1000;omega,fun _=>⟨rfl,rfl⟩,(fun h=>by cases h)⟩ (fun K hK vs n' d hq g1 g2=>hK.1 (k9_ m m.ps vs) n' d ⟨g1,g2,by rw[h2];unfold tk1;rw[hb,hq];rfl⟩) (fun K hK vs n' hq g1=>hK.2 (k9_ m m.ps vs) n' ⟨by rw[h2];unfold tk1;rw[hb,hq];rfl,?_,rfl⟩)
   ·exact LoopJ.seen (f1:=GT2 L c ((beN L (L.length-n) 1:Nat):Int)) abg_ this
   ·have hlv:=adK_ _ _ _ _ _ hq
    have hlv:vs.length=0+beN L (L.length-n) 1:=hlv
    exact W1_ (List.all_eq_true.2 fun _ _=>rfl) (by show m.ps.length≤_;omega) (Nat.le_refl _) (List.all_eq_true.2 fun _ _=>rfl) (by show vs.length≤_;omega) (Nat.le_refl _)
theorem ahy_{L:List U8}{c:Nat}{β:Bs}(hβ:β.X.length=1)(hL:L.all (okA U8)=true)(hl:L.length≤1000000)(hT:e2_ L=tk0 L)(h8:Nat.blt (nH8 L) 1=false)(hn:nH8 L≤L.length):
  LoopJ Tryz.prog β (exHH L c) 0 (a5_ Tryz.prog 11 0) (GT1 L c ((beN L (L.length-nH8 L) 1:Nat):Int)) (mkS [some (rowO .look L),some (.cells (msCs zMs nilV nilV) true 0),some (RfO L (nH8 L-1) 0 false),some (.cells (msCs (hdH L) nilV nilV) true 0)]):=by
 have hlt:=Y6_ hL (L.length-nH8 L) 1
 have:=abu_ (c:=c) (m:=hdH L) (ex:=exHH L c) (qq:=pfL L (beN L (L.length-nH8 L) 1) (nH8 L-1) []) hβ hL hl ⟨beN L (L.length-nH8 L) 1,nH8 L-1,0,false,[]⟩ ⟨by show nH8 L-1≤_;omega,Nat.zero_le _,by show 0+beN L (L.length-nH8 L) 1≤1000;omega,fun _=>⟨rfl,rfl⟩,(fun h=>by cases h)⟩ (fun K hK ps n d hq g1 g2=>hK.1 (i3_ (hdH L) ps) n d ⟨g1,g2,by rw[hT];unfold tk0;rw[h8,hq];rfl⟩) (fun K hK ps n hq g1=>hK.2 (i3_ (hdH L) ps) n ⟨g1,by rw[hT];unfold tk0;rw[h8,hq];rfl,?_,rfl⟩)
 ·refine LoopJ.seen (f1:=GT1 L c ((beN L (L.length-nH8 L) 1:Nat):Int)) (st1:=HS1 L (nH8 L-1) 0 false (i3_ (hdH L) [])) ?_ this
  refine Seen.trans (Seen.void 1 (encL ([]:List St))) (Seen.objs rfl fun q o2 h=> ?_)
  match q,h with
  |0,h=>cases h;exact⟨_,rfl,rfl,fun _ _ _ h=>h⟩
  |1,h=>cases h;exact⟨_,rfl,rfl,fun _ _ _ h=>h⟩
  |2,h=>cases h;exact⟨_,rfl,rfl,fun _ _ _ h=>h⟩
  |3,h=>cases h;exact⟨_,rfl,rfl,fun _ _ _ h=>ObjR.nilCell (j:=10) (k:=4) rfl h⟩
  |4,h=>cases h;exact⟨_,rfl,rfl,fun _ _ _ h=>h⟩
  |_+5,h=>cases h
 ·have hlv:=afk_ _ _ _ _ _ hq
  have hlv:ps.length=0+beN L (L.length-nH8 L) 1:=hlv
  show ps.length≤1000
  omega
theorem ahz_:c5_ Tryz.prog 11 (okA1 (Rw U8) fun r=>r.l.all (okA U8)) (g9_ (Rw U8) fun r=>aad_ (e2_ r.l)):=by
 refine l0_ follows fun r hg hp=>⟨toldZ4,100,20,fun _=>0,slH,exHH r.l r.c,toldZ4_ok,fun β hβ=> ?_⟩
 obtain⟨L,c⟩:=r
 obtain⟨hL,hl,hc⟩:=hg
 have hL:L.all (okA U8)=true:=hL
 have hl:L.length≤1000000:=hl
 have hc:c≤1:=hc
 show lawE Tryz.prog toldZ4 100 20 β (fun _=>0) (cnOf 1 slH) (exH L c (GbH L) (G1H L) (G2H L)) 11 [.slice (some ⟨0,0,some 0⟩) L.length c] (mkS [some (rowO .look L)]) (outC 1 fun r q=> ∃m2,a6_ q m2∧ansE (aad_ (e2_ L)) r (mkS m2))
 refine(ape_ L c (GbH L) (G1H L) (G2H L) β _).mpr ?_
 try dsimp only
 have hR:=akU_ (c:=c) hβ hL hl
 simp only[h7_,c7_]
 refine a0_ (fun b0=> ?_) (fun b0=>nd_ (aeO_ hL hl hc) ?_)
 ·have hT:e2_ L=none:=by unfold e2_;rw[b0];rfl
  refine nd_ (aeO_ hL hl hc) ?_
  refine nd_ (a7_ hL hl (by omega) (by omega)) ?_
  refine nd_ (a7_ hL hl (by omega) (by omega)) ?_
  refine nd_ (a7_ hL hl (by omega) (by omega)) ?_
  refine nd_ (a7_ hL hl (by omega) (by omega)) ?_
  refine nd_ (a7_ hL hl (by omega) (by omega)) ?_
  refine nd_ (a7_ hL hl (by omega) (by omega)) ?_
  refine nd_ (a7_ hL hl (by omega) (by omega)) ?_
  refine nd_ (a7_ hL hl (by omega) (by omega)) ?_
  exact⟨m7_ (m:=⟨0,0,0,0,0,false,0,⟨0,0,0⟩,[],1,[],1⟩) hβ hL hl (by omega) (by omega) hT,hR⟩
 refine a0_ (fun b1=> ?_) (fun b1=>nd_ (a7_ hL hl (by omega) (Nat.zero_le _)) ?_)
 ·have hT:e2_ L=none:=by unfold e2_;rw[b0,b1];rfl
  refine nd_ (a7_ hL hl (by omega) (by omega)) ?_
  refine nd_ (a7_ hL hl (by omega) (by omega)) ?_
  refine nd_ (a7_ hL hl (by omega) (by omega)) ?_
  refine nd_ (a7_ hL hl (by omega) (by omega)) ?_
  refine nd_ (a7_ hL hl (by omega) (by omega)) ?_
  refine nd_ (a7_ hL hl (by omega) (by omega)) ?_
  refine nd_ (a7_ hL hl (by omega) (by omega)) ?_
  refine nd_ (a7_ hL hl (by omega) (by omega)) ?_
  exact⟨m7_ (m:=⟨hfK L L.length 1,0,0,0,0,false,0,⟨0,0,0⟩,[],1,[],1⟩) hβ hL hl (by omega) (by omega) hT,hR⟩
 refine a0_ (fun b2=> ?_) (fun b2=>nd_ (a7_ hL hl (by omega) (Nat.zero_le _)) ?_)
 ·have hT:e2_ L=none:=by unfold e2_;rw[b0,b1,b2];rfl
  refine nd_ (a7_ hL hl (by omega) (by omega)) ?_
  refine nd_ (a7_ hL hl (by omega) (by omega)) ?_
  refine nd_ (a7_ hL hl (by omega) (by omega)) ?_
  refine nd_ (a7_ hL hl (by omega) (by omega)) ?_
  refine nd_ (a7_ hL hl (by omega) (by omega)) ?_
  refine nd_ (a7_ hL hl (by omega) (by omega)) ?_
  refine nd_ (a7_ hL hl (by omega) (by omega)) ?_
  exact⟨m7_ (m:=⟨hfK L L.length 1,hfK L (L.length-1) 2,0,0,0,false,0,⟨0,0,0⟩,[],1,[],1⟩) hβ hL hl (by omega) (by omega) hT,hR⟩
 refine a0_ (fun b3=> ?_) (fun b3=>nd_ (a7_ hL hl (by omega) (Nat.zero_le _)) ?_)
 ·have hT:e2_ L=none:=by unfold e2_;rw[b0,b1,b2,b3];rfl
  refine nd_ (a7_ hL hl (by omega) (by omega)) ?_
  refine nd_ (a7_ hL hl (by omega) (by omega)) ?_
  refine nd_ (a7_ hL hl (by omega) (by omega)) ?_
  refine nd_ (a7_ hL hl (by omega) (by omega)) ?_
  refine nd_ (a7_ hL hl (by omega) (by omega)) ?_
  refine nd_ (a7_ hL hl (by omega) (by omega)) ?_
  exact⟨m7_ (m:=⟨hfK L L.length 1,hfK L (L.length-1) 2,0,hfK L (L.length-1-2) 2,0,false,0,⟨0,0,0⟩,[],1,[],1⟩) hβ hL hl (by omega) (by omega) hT,hR⟩
 refine a0_ (fun b4=> ?_) (fun b4=>nd_ (a7_ hL hl (by omega) (Nat.zero_le _)) ?_)
 ·have hT:e2_ L=none:=by unfold e2_;rw[b0,b1,b2,b3,b4];rfl
  refine nd_ (a7_ hL hl (by omega) (by omega)) ?_
  refine nd_ (a7_ hL hl (by omega) (by omega)) ?_
  refine nd_ (a7_ hL hl (by omega) (by omega)) ?_
  refine nd_ (a7_ hL hl (by omega) (by omega)) ?_
  refine nd_ (a7_ hL hl (by omega) (by omega)) ?_
  exact⟨m7_ (m:=⟨hfK L L.length 1,hfK L (L.length-1) 2,0,hfK L (L.length-1-2) 2,hfK L (L.length-1-2-2) 2,false,0,⟨0,0,0⟩,[],1,[],1⟩) hβ hL hl (by omega) (by omega) hT,hR⟩
 refine a0_ (fun b5=> ?_) (fun b5=>nd_ (a7_ hL hl (by omega) (Nat.zero_le _)) ?_)
 ·have hT:e2_ L=none:=by unfold e2_;rw[b0,b1,b2,b3,b4,b5];rfl
  refine nd_ (a7_ hL hl (by omega) (by omega)) ?_
  refine nd_ (a7_ hL hl (by omega) (by omega)) ?_
  refine nd_ (a7_ hL hl (by omega) (by omega)) ?_
  refine nd_ (a7_ hL hl (by omega) (by omega)) ?_
  exact⟨m7_ (m:=⟨hfK L L.length 1,hfK L (L.length-1) 2,hfK L (L.length-1-2-2-2) 1,hfK L (L.length-1-2) 2,hfK L (L.length-1-2-2) 2,false,0,⟨0,0,0⟩,[],1,[],1⟩) hβ hL hl (by omega) (by omega) hT,hR⟩
 refine a0_ (fun b6=> ?_) (fun b6=>nd_ (a7_ hL hl (by omega) (Nat.zero_le _)) ?_)
 ·have hT:e2_ L=none:=by unfold e2_;rw[b0,b1,b2,b3,b4,b5,b6];rfl
  refine nd_ (a7_ hL hl (by omega) (by omega)) ?_
  refine nd_ (a7_ hL hl (by omega) (by omega)) ?_
  refine nd_ (a7_ hL hl (by omega) (by omega)) ?_
  exact⟨m7_ (m:=⟨hfK L L.length 1,hfK L (L.length-1) 2,hfK L (L.length-1-2-2-2) 1,hfK L (L.length-1-2) 2,hfK L (L.length-1-2-2) 2,Int.ofNat (beN L (L.length-(L.length-1-2-2-2-1)) 1) !=(0:Int),0,⟨0,0,0⟩,[],1,[],1⟩) hβ hL hl (by omega) (by omega) hT,hR⟩
 refine a0_ (fun b7=> ?_) (fun b7=>nd_ (a7_ hL hl (by omega) (Nat.zero_le _)) ?_)
 ·have b7:(fvF true).bd L (nH7 L)=true:=b7
  have hT:e2_ L=none:=by unfold e2_;rw[b0,b1,b2,b3,b4,b5,b6,b7];rfl
  have hc3:(c3 (L.length-1-2-2-2-1-1-8) (frF L (L.length-1-2-2-2-1-1-8)) (fsF L (L.length-1-2-2-2-1-1-8)) (L.length-1-2-2-2-1-1-8) ((L.length-1-2-2-2-1-1-8)-1) ((L.length-1-2-2-2-1-1-8)-1) ((L.length-1-2-2-2-1-1-8)-1-wiK (fkF L (L.length-1-2-2-2-1-1-8))))≤L.length:=by
   unfold c3
   cases Nat.blt (L.length-1-2-2-2-1-1-8) 1<;>cases frF L (L.length-1-2-2-2-1-1-8)<;>cases fsF L (L.length-1-2-2-2-1-1-8)<;>simp<;>omega
  have hd:(bif Nat.blt (L.length-1-2-2-2-1-1-8) 1 then 0 else 0)≤1:=by cases Nat.blt (L.length-1-2-2-2-1-1-8) 1<;>decide
  refine nd_ (a7_ hL hl (by omega) (Nat.zero_le _)) (nd_ (a7_ hL hl hc3 hd) ?_)
  exact⟨m7_ (m:=⟨hfK L L.length 1,hfK L (L.length-1) 2,hfK L (L.length-1-2-2-2) 1,hfK L (L.length-1-2) 2,hfK L (L.length-1-2-2) 2,Int.ofNat (beN L (L.length-(L.length-1-2-2-2-1)) 1) !=(0:Int),hfK L (L.length-1-2-2-2-1-1) 8,⟨c3 (L.length-1-2-2-2-1-1-8) (frF L (L.length-1-2-2-2-1-1-8)) (fsF L (L.length-1-2-2-2-1-1-8)) 0 0 (fkF L (L.length-1-2-2-2-1-1-8)) (fkF L (L.length-1-2-2-2-1-1-8)),c3 (L.length-1-2-2-2-1-1-8) (frF L (L.length-1-2-2-2-1-1-8)) (fsF L (L.length-1-2-2-2-1-1-8)) 0 0 (tkI (fkF L (L.length-1-2-2-2-1-1-8)) []) (tkI (fkF L (L.length-1-2-2-2-1-1-8)) (fpF L (L.length-1-2-2-2-1-1-8))),c3 (L.length-1-2-2-2-1-1-8) (frF L (L.length-1-2-2-2-1-1-8)) (fsF L (L.length-1-2-2-2-1-1-8)) 0 0 (tkF (fkF L (L.length-1-2-2-2-1-1-8)) []) (tkF (fkF L (L.length-1-2-2-2-1-1-8)) (fpF L (L.length-1-2-2-2-1-1-8)))⟩,[],1,[],1⟩) hβ hL hl hc3 hd hT,hR⟩
 have b7:(fvF true).bd L (nH7 L)=false:=b7
 have hT:e2_ L=tk0 L:=by unfold e2_;rw[b0,b1,b2,b3,b4,b5,b6,b7];rfl
 have hn8:nH8 L≤L.length:=by
  show vnF L (L.length-1-2-2-2-1-1-8)≤L.length
  unfold vnF
  cases fkF L (L.length-1-2-2-2-1-1-8)==0<;>simp<;>omega
 refine a0_ (fun b8=>nd_ (a7_ hL hl hn8 (Nat.zero_le _)) ?_) (fun b8=>nd_ (a7_ hL hl hn8 (Nat.zero_le _)) ?_)
 ·have b8:Nat.blt (nH8 L) 1=true:=b8
  have hT2:e2_ L=none:=by rw[hT];unfold tk0;rw[b8];rfl
  exact⟨m7_ (m:=hdH L) hβ hL hl hn8 (Nat.zero_le _) hT2,hR⟩
 ·have b8:Nat.blt (nH8 L) 1=false:=b8
  exact⟨ahy_ hβ hL hl hT b8 hn8,hR⟩
def R5_:Told:=toldZ4.tree 11 (okA1 (Rw U8) fun r=>r.l.all (okA U8)) (g9_ (Rw U8) fun r=>aad_ (e2_ r.l))
theorem R4_:a8_ Tryz.prog R5_:=Told.tree_ok toldZ4_ok ahz_
theorem app_(w:Wt)(β:Bs)(K:AE→List (Option AObj)→Prop):lawE Tryz.prog R5_ 100 20 β (fun _=>0) (cnOf 1 fun _=>[]) (fun _ _=>False) 27 [wtV w 0] (mkS [some (rowO .look w.qu)]) (outC 1 K)=
 (fun(z0:Nat) (z1:Im)=>((fun(z2:List (Option AObj))=>(need (true&&Nat.ble (0+List.length (Wt.qu w)) z0) (need (okC 5 [Ta.cell (.fr 5 z0 (Wt.cqu w) fun i=>encL (Wt.qu w) (0+i))]) (br (Int.ofNat z0==(0:Int)) (K (.returned (Value.tuple (Array.mk [Value.agg (Array.mk [.int .i64 (Wt.nu w),.int .i64 (Wt.ad w),.int .i64 (Wt.ev w),.int .i64 (Wt.du w),.int .i64 (Vl.k (Wt.bd w)),.int .i64 (Vl.i (Wt.bd w)),.float .f64 (Vl.f (Wt.bd w)),.int .i64 (Wt.mo w),.bool (Wt.ha w),.bool (Wt.lo w),.int .i64 (Vl.k (Wt.la w)),.int .i64 (Vl.i (Wt.la w)),.float .f64 (Vl.f (Wt.la w)),.int .i64 (Wt.sq w),.slice (some ⟨1,0,some 0⟩) z0 (Wt.cqu w)]),Value.agg (Array.mk [.int .i64 (0:Int),.int .i64 (0:Int),.int .i64 (0:Int),.float .f64 0,.bool false]),.bool false]))) z2) (need (Nat.blt 0 z0) (need (true&&Nat.blt 0 z0) (need (Nat.ble 1 z0) (K (.returned (Value.tuple (Array.mk [Value.agg (Array.mk [.int .i64 (Wt.nu w),.int .i64 (Wt.ad w),.int .i64 (Wt.ev w),.int .i64 (Wt.du w),.int .i64 (Vl.k (Wt.bd w)),.int .i64 (Vl.i (Wt.bd w)),.float .f64 (Vl.f (Wt.bd w)),.int .i64 (Wt.mo w),.bool (Wt.ha w),.bool (Wt.lo w),.int .i64 (Vl.k (Wt.la w)),.int .i64 (Vl.i (Wt.la w)),.float .f64 (Vl.f (Wt.la w)),.int .i64 (Wt.sq w),.slice (some ⟨1,0,some 1⟩) (List.length (Wt.qu w)-1) (bif Nat.beq z0 0 then Wt.cqu w else 0)]),Value.agg (Array.mk [.int .i64 (Im.sq z1),.int .i64 (Vl.k (Im.v z1)),.int .i64 (Vl.i (Im.v z1)),.float .f64 (Vl.f (Im.v z1)),.bool (Im.lo z1)]),.bool true]))) z2)))))))) [some (.row .look 5 0 z0 (encL (Wt.qu w))),some (.row .mine 5 0 z0 fun i=>encL (Wt.qu w) (0+i))])) (List.length (Wt.qu w)) (List.getD (Wt.qu w) 0 Enc.dflt):=by kernel_rfl
def nxE(w:Wt):Bool:=Int.ofNat w.qu.length==0
def nxW(w:Wt):Wt:=⟨w.nu,w.ad,w.ev,w.du,w.bd,w.mo,w.ha,w.lo,w.la,w.sq,w.qu.tail,cond (nxE w) w.cqu 0⟩
def nxI(w:Wt):Im:=w.qu.getD 0 Enc.dflt
theorem X6_{α:Type}[Enc α](l:List α)(i j:Nat):encL l (1+i) j=encL l.tail i j:=by
 cases l with
 |nil=>rfl
 |cons a l=>rw[Nat.add_comm];rfl
theorem aeY_{st:ASt}{w:Wt}{v:Value}{l1:List Nat}(h:raE st (.own 5 w.qu.length w.cqu (encL w.qu)) v l1):rasE st ((b1_ w).map raOf) (wtCs w v) l1:=by
 have:=rO_ (l2:=[]) h i4_
 rw[List.append_nil]at this
 exact rS_ rfl rfl (rS_ rfl rfl (rS_ rfl rfl (rS_ rfl rfl (rS_ rfl rfl (rS_ rfl rfl (rS_ rfl rfl (rS_ rfl rfl (rS_ rfl rfl (rS_ rfl rfl (rS_ rfl rfl (rS_ rfl rfl (rS_ rfl rfl (rS_ rfl rfl this)))))))))))))
theorem alE_:c5_ Tryz.prog 27 (okA1 (Sc Wt) fun _=>true) (g9_ (Sc Wt) fun w=> .rets [ansO (nxW w.x),ansO (nxI w.x),.cell (.sc (.bool (!nxE w.x)))]):=by
 refine l0_ follows fun r hr _=>LawC.of R5_ 100 20 (fun _=>0) (fun _=>[]) (fun _ _=>False) R4_ fun β hβ=> ?_
 obtain⟨w⟩:=r
 obtain⟨g1,g2,g3⟩:=r0_ hr
 show HdP (lawE Tryz.prog R5_ 100 20 β (fun _=>0) (cnOf 1 fun _=>[]) (fun _ _=>False) 27 [wtV w 0] (mkS [some (rowO .look w.qu)]) (outC 1 fun r q=> ∃m2,a6_ q m2∧ansE (.rets [ansO (nxW w),ansO (nxI w),.cell (.sc (.bool (!nxE w)))]) r (mkS m2)))
 refine⟨?_⟩
 rw[app_]
 try dsimp only
 have g2:w.qu.length≤1000000:=g2
 simp only[Nat.zero_add]
 refine nd_ (by simp) (nd_ (ajX_ g2 g3) (a0_ (fun h=> ?_) (fun h=> ?_)))
 ·have he:nxE w=true:=h
  have h0:w.qu=[]:=by
   have:=eq_of_beq h
   rw[Int.ofNat_eq_natCast]at this
   exact List.length_eq_zero_iff.1 (by omega)
  have hw:nxW w=w:=by unfold nxW;rw[he,h0];obtain⟨_,_,_,_,_,_,_,_,_,_,_,_⟩:=w;have h0:_=[]:=h0;subst h0;rfl
  have hi:nxI w=Enc.dflt:=by unfold nxI;rw[h0];rfl
  rw[he,hw,hi]
  refine⟨_,a6_.refl _,⟨_,[1],rfl,⟨[1],[],rfl,⟨_,rfl,?_⟩,⟨[],[],rfl,⟨_,rfl,rS_ rfl rfl (rS_ rfl rfl (rS_ rfl rfl (rS_ rfl rfl (rS_ rfl rfl i4_))))⟩,⟨[],[],rfl,⟨rfl,rfl,rfl⟩,rfl⟩⟩⟩,by simp⟩⟩
  exact aeY_ (E6_ (k:=1) (i0:=0) (lo:=0) (m:=w.qu.length) (g:=encL w.qu) rfl (fun _=>rfl) (Nat.le_refl _) (by omega) (fun i hi j hj=>by rw[Nat.zero_add]))
 ·have he:nxE w=false:=h
  have h1:1≤w.qu.length:=by
   have h: ¬(Int.ofNat w.qu.length=0):=by simpa using h
   rw[Int.ofNat_eq_natCast]at h
   omega
  have hb:Nat.blt 0 w.qu.length=true:=Nat.ble_eq_true_of_le h1
  have hb0:Nat.beq w.qu.length 0=false:=by rw[Bool.eq_false_iff];intro h;have:=Nat.eq_of_beq_eq_true h;omega
  rw[hb0]
  refine nd_ hb (nd_ (by rw[hb];rfl) (nd_ (Nat.ble_eq_true_of_le h1) ?_))
  rw[he]
  have hl:(nxW w).qu.length=w.qu.length-1:=List.length_tail
  have hc:(nxW w).cqu=0:=by show cond (nxE w) _ _=_;rw[he];rfl
  refine⟨_,a6_.refl _,⟨_,[1],rfl,⟨[1],[],rfl,⟨_,rfl,?_⟩,⟨[],[],rfl,⟨_,rfl,rS_ rfl rfl (rS_ rfl rfl (rS_ rfl rfl (rS_ rfl rfl (rS_ rfl rfl i4_))))⟩,⟨[],[],rfl,⟨rfl,rfl,rfl⟩,rfl⟩⟩⟩,by simp⟩⟩
  have:=aeY_ (st:=mkS [some (AObj.row Rk.look 5 0 w.qu.length (encL w.qu)),some (AObj.row Rk.mine 5 0 w.qu.length fun i=>encL w.qu i)]) (w:=nxW w) (v:= .slice (some ⟨1,0,some 1⟩) (w.qu.length-1) 0) (l1:=[1]) (by
   rw[hl,hc]
   exact E6_ (k:=1) (i0:=1) (lo:=0) (m:=w.qu.length) (g:=encL w.qu) rfl (fun _=>rfl) (Nat.zero_le _) (by omega) (fun i hi j hj=>X6_ w.qu i j))
  exact this
def S6_:Told:=R5_.tree 27 (okA1 (Sc Wt) fun _=>true) (g9_ (Sc Wt) fun w=> .rets [ansO (nxW w.x),ansO (nxI w.x),.cell (.sc (.bool (!nxE w.x)))])
theorem S5_:a8_ Tryz.prog S6_:=Told.tree_ok R4_ alE_
theorem apy_(m:Ms)(β:Bs)(K:AE→List (Option AObj)→Prop):lawE Tryz.prog S6_ 100 20 β (fun _=>0) (cnOf 2 fun _=>[]) (fun _ _=>False) 26 [amV m 0 1] (mkS [some (rowO .look m.ps),some (rowO .look m.vs)]) (outC 2 K)=
 (fun(z3 z4:Nat)=>((fun(z0:List Td)=>((fun(z2:Ms)=>((fun(z1:Td)=>((fun(z5:Nat)=>(need (true&&Nat.ble (0+List.length (Ms.ps m)) z3) (need (true&&Nat.ble (0+List.length (Ms.vs m)) z4) (need (okA1 (Sc Ms) (fun m=>fitM (Sc.x m)) [Ta.agg z0]) (need (true&&Nat.ble (0+List.length (putQ z2)) (List.length (putQ z2))) (need (ok1 U8 (fun l x=>List.all l (okA U8)) [Ta.cell z1]) (K (.returned (.slice (some ⟨2,0,some 0⟩) z5 1)) [some (.row .look 1 0 z3 (encL (Ms.ps m))),some (.row .look 3 0 z4 (encL (Ms.vs m))),some (.row .mine 1 0 z5 (encL (putL (a4_ U8 z1))))]))))))) (List.length (putL (a4_ U8 z1))))) (.fr 1 (List.length (putQ z2)) (putC z2) fun i=>encL (putQ z2) (0+i)))) (Enc.dec (nthT z0)))) [.sc (.int .i64 (Ms.k m)),.sc (.int .i64 (Ms.id m)),.sc (.int .i64 (Ms.er m)),.sc (.int .i64 (Ms.n m)),.sc (.int .i64 (Ms.sq m)),.sc (.bool (Ms.lo m)),.sc (.int .i64 (Ms.ev m)),.sc (.int .i64 (Vl.k (Ms.bd m))),.sc (.int .i64 (Vl.i (Ms.bd m))),.sc (.float .f64 (Vl.f (Ms.bd m))),.fr 1 z3 (Ms.cps m) fun i=>encL (Ms.ps m) (0+i),.fr 3 z4 (Ms.cvs m) fun i=>encL (Ms.vs m) (0+i)])) (List.length (Ms.ps m)) (List.length (Ms.vs m)):=by kernel_rfl
def frL(m:Ms):List U8:=putL (putQ m)
theorem als_(m:Ms):putC m≤1:=by unfold putC;cases mayQ m<;>cases decide (Int.ofNat (pmV m).length>200)<;>simp
theorem amu_:c5_ Tryz.prog 26 (okA1 (Sc Ms) fun m=>fitM m.x) (g9_ (Sc Ms) fun m=> .ret (ansW (frL m.x) 1)):=by
 refine l0_ follows fun r hr hp=>LawC.of S6_ 100 20 (fun _=>0) (fun _=>[]) (fun _ _=>False) S5_ fun β hβ=> ?_
 obtain⟨m⟩:=r
 have hp:fitM m=true:=hp
 have hr:okA Ms m=true:=hr
 show HdP (lawE Tryz.prog S6_ 100 20 β (fun _=>0) (cnOf 2 fun _=>[]) (fun _ _=>False) 26 [amV m 0 1] (mkS [some (rowO .look m.ps),some (rowO .look m.vs)]) (outC 2 fun r q=> ∃m2,a6_ q m2∧ansE (.ret (ansW (frL m) 1)) r (mkS m2)))
 refine⟨?_⟩
 rw[apy_]
 try dsimp only
 obtain⟨q1,q2⟩:=alr_ m
 have z1:a4_ U8 (Td.fr 1 (putQ m).length (putC m) fun i=>encL (putQ m) i)=putQ m:=lT_ _ _
 have hd:(Enc.dec (nthT [Td.sc (.int .i64 m.k),Td.sc (.int .i64 m.id),Td.sc (.int .i64 m.er),Td.sc (.int .i64 m.n),Td.sc (.int .i64 m.sq),Td.sc (.bool m.lo),Td.sc (.int .i64 m.ev),Td.sc (.int .i64 m.bd.k),Td.sc (.int .i64 m.bd.i),Td.sc (.float .f64 m.bd.f),Td.fr 1 m.ps.length m.cps fun i=>encL m.ps i,Td.fr 3 m.vs.length m.cvs fun i=>encL m.vs i]):Ms)=m:=(dE_ m).1
 simp only[Nat.zero_add,hd,z1]
 refine nd_ (by simp) (nd_ (by simp) (nd_ ((x0_ m).trans (by rw[hr,hp];rfl)) (nd_ (by simp) (nd_ (ok1U q1 (by omega) (als_ m)) ?_))))
 exact⟨_,a6_.refl _,[2],h8_ (c:=1) (frL m) rfl fun _=>rfl,by simp⟩
def D2_:Told:=S6_.tree 26 (okA1 (Sc Ms) fun m=>fitM m.x) (g9_ (Sc Ms) fun m=> .ret (ansW (frL m.x) 1))
theorem D1_:a8_ Tryz.prog D2_:=Told.tree_ok S5_ amu_
def slSd:List Nat:=[1,2,28,29,30]
def lvSd:AX→List Nat:=fun x=>match x with
 | .ret=>[2,3]
 | .exit _=>[1,2]
 |_=>slSd
def zCs:AObj:= .cells (ssCs zSs nilV nilV nilV nilV) true 0
def o6_(w:Wt):Ms:=⟨7,0,0,w.nu,(nxI w).sq,(nxI w).lo,0,⟨0,0,0⟩,[],1,[(nxI w).v],0⟩
def sdI(s:Ss):Nat:=s.sub.findIdx fun w=> !nxE w
def sdW(s:Ss):Wt:=s.sub.getD (sdI s) Enc.dflt
def sdN(s:Ss):Ss:=⟨s.on,s.se,s.fb,s.cfb,s.ba,s.ins,s.cins,s.out,s.cout,s.sub.set (sdI s) (nxW (sdW s)),s.csub,s.num⟩
def FSd(s:Ss)(k:Int):AFr:=mkF 61 [(1,.pointer (some ⟨4,0,none⟩)),(2,.pointer (some ⟨9,0,none⟩)),(28,.slice (some ⟨8,0,some 0⟩) s.sub.length s.csub),(29,.int .i64 s.sub.length),(30,.int .i64 k)]
def SSd(s:Ss):ASt:=mkS (ssR .look s++[some (ssO s 5)]++ssR .mine s++[some zCs])
def FSdx:AFr:=mkF 61 [(1,.pointer (some ⟨4,0,none⟩)),(2,.pointer (some ⟨9,0,none⟩))]
def FSdr(s:Ss):AFr:=mkF 61 [(2,.pointer (some ⟨4,0,none⟩)),(3,.slice (some ⟨9,0,some 0⟩) (frL (o6_ (sdW s))).length 1)]
def SSdr(s:Ss):ASt:=mkS (ssR .look s++[some (ssO (sdN s) 5)]++ssR .mine (sdN s)++[some (rowO .mine (frL (o6_ (sdW s))))])
def exSd(s:Ss):Nat→Kt→Prop:=fun b K=>(sdI s<s.sub.length→K .ret (FSdr s) (SSdr s))∧(sdI s=s.sub.length→K (.exit b) FSdx (SSd s))
theorem apl_(s:Ss)(β:Bs)(K:AE→List (Option AObj)→Prop):lawE Tryz.prog D2_ 100 20 β (fun _=>0) (cnOf 4 fun _=>slSd) (exSd (nrm s)) 8 [ssV s 0] (mkS (ssR .look s)) (outC 4 K)=
 (fun(z6 z7 z8 z13 z15 z24:Nat) (z17 z18 z19 z26 z27:Addr) (z28 z29:Value)=>((fun(z2 z4:List Ms) (z3:List Wt) (z5:List U8) (z9 z10 z11 z12 z22 z23 z25:AObj)=>((fun(z0:Ms) (z14 z16 z33 z34:Nat)=>((fun(z20 z21 z31 z32:AObj) (z35 z36:Nat)=>((fun(z1:List Td)=>((fun(z30:Nat)=>(need (true&&Nat.ble (0+List.length (Ss.fb s)) z8) (need (true&&Nat.ble (0+List.length (Ss.ins s)) z6) (need (true&&Nat.ble (0+List.length (Ss.out s)) z7) (need (true&&Nat.ble (0+List.length (Ss.sub s)) z13) (need (okA1 (Sc Ss) (fun s=>fitS (Sc.x s)) [Ta.agg [.sc z28,.sc (.int .i64 (Ss.se s)),.fr 1 z8 (Ss.cfb s) fun i=>encL (Ss.fb s) (0+i),.sc z29,.fr 12 z6 (Ss.cins s) fun i=>encL (Ss.ins s) (0+i),.fr 12 z7 (Ss.cout s) fun i=>encL (Ss.out s) (0+i),.fr 15 z13 (Ss.csub s) fun i=>encL (Ss.sub s) (0+i),.sc (.int .i64 (Ss.num s))]]) (br (decide (Int.ofNat z14>(0:Int))) (need (Nat.blt 0 z14) (need (true&&Nat.blt 0 z14) (need (Nat.ble 1 z14) (need (true&&Nat.ble (0+List.length (Ms.ps z0)) z35) (need (true&&Nat.ble (0+List.length (Ms.vs z0)) z36) (need (okA1 (Sc Ms) (fun m=>fitM (Sc.x m)) [Ta.agg z1]) (K (.returned (Value.tuple (Array.mk [Value.agg (Array.mk [.bool (bolD (.sc z28)),.int .i64 (Ss.se s),.slice (some z26) z33 (Ss.cfb s),.bool (bolD (.sc z29)),.slice (some z17) z34 1,.slice (some ⟨6,0,some 1⟩) (List.length z2-1) (bif Nat.beq z14 0 then 1 else 0),.slice (some z18) z16 (Ss.csub s),.int .i64 (Ss.num s)]),.slice (some z19) z30 1]))) [some z12,some z10,some z11,some z9,some z21,some z20,some z31,some z32,some (.row .mine 1 0 z30 (encL (frL (Enc.dec (nthT z1)))))]))))))) (LoopJ Tryz.prog β (exSd (nrm s)) 0 (a5_ Tryz.prog 8 0) (mkF 61 [(1,.pointer (some ⟨4,0,none⟩)),(2,.pointer (some ⟨9,0,none⟩)),(28,.slice (some z19) z16 (Ss.csub s)),(29,.int .i64 (Int.ofNat z16)),(30,.int .i64 (0:Int))]) (mkS [some z12,some z10,some z11,some z9,some (.cells [.bool (bolD (.sc z28)),.int .i64 (Ss.se s),.slice (some z17) z33 (Ss.cfb s),.bool (bolD (.sc z29)),.slice (some z27) z34 1,.slice (some z18) z14 1,.slice (some z19) z16 (Ss.csub s),.int .i64 (Ss.num s)] true 0),some z21,some z20,some z31,some z32,some (.cells [.bool false,.int .i64 (0:Int),.slice none 0 0,.bool false,.slice none 0 0,.slice none 0 0,.slice none 0 0,.int .i64 (0:Int)] true 0)])∧(sdI (nrm s)<List.length (Ss.sub (nrm s))→K (.returned (Value.tuple (Array.mk [Value.agg (Array.mk [.bool (Ss.on s),.int .i64 (Ss.se s),.slice (some z26) z8 (Ss.cfb s),.bool (Ss.ba s),.slice (some z17) z6 1,.slice (some z27) z7 1,.slice (some z18) z15 (Ss.csub s),.int .i64 (Ss.num s)]),.slice (some z19) z24 1]))) [some z12,some z10,some z11,some z9,some z25,some z22,some z23,some (.row .mine 15 0 z15 (encL (List.set (Ss.sub s) (sdI (nrm s)) (nxW (sdW (nrm s)))))),some (.row .mine 1 0 z24 (encL (frL (o6_ (sdW (nrm s))))))])∧(sdI (nrm s)=List.length (Ss.sub (nrm s))→K (.returned (Value.tuple (Array.mk [Value.agg (Array.mk [.bool (Ss.on s),.int .i64 (Ss.se s),.slice (some z26) z8 (Ss.cfb s),.bool (Ss.ba s),.slice (some z17) z6 1,.slice (some z27) z7 1,.slice (some z18) z13 (Ss.csub s),.int .i64 (Ss.num s)]),.slice none 0 0]))) [some z12,some z10,some z11,some z9,some z25,some z22,some z23,some (.row .mine 15 0 z13 (encL (Ss.sub s)))]))))))))) (List.length (frL (Enc.dec (nthT z1)))))) [.sc (.int .i64 (Ms.k z0)),.sc (.int .i64 (Ms.id z0)),.sc (.int .i64 (Ms.er z0)),.sc (.int .i64 (Ms.n z0)),.sc (.int .i64 (Ms.sq z0)),.sc (.bool (Ms.lo z0)),.sc (.int .i64 (Ms.ev z0)),.sc (.int .i64 (Vl.k (Ms.bd z0))),.sc (.int .i64 (Vl.i (Ms.bd z0))),.sc (.float .f64 (Vl.f (Ms.bd z0))),.fr 1 z35 (Ms.cps z0) fun i=>encL (Ms.ps z0) (0+i),.fr 3 z36 (Ms.cvs z0) fun i=>encL (Ms.vs z0) (0+i)])) (.row .mine 12 0 z34 (encL z4)) (.row .mine 1 0 z33 (encL z5)) (.row .mine 12 0 z14 (encL z2)) (.row .mine 15 0 z16 (encL
 z3)) (List.length (Ms.ps z0)) (List.length (Ms.vs z0)))) (List.getD z2 0 Enc.dflt) z2.length z3.length z5.length z4.length)) (a4_ Ms (.fr 12 z7 (Ss.cout s) fun i=>encL (Ss.out s) (0+i))) (a4_ Ms (.fr 12 z6 (Ss.cins s) fun i=>encL (Ss.ins s) (0+i))) (a4_ Wt (.fr 15 z13 (Ss.csub s) fun i=>encL (Ss.sub s) (0+i))) (a4_ U8 (.fr 1 z8 (Ss.cfb s) fun i=>encL (Ss.fb s) (0+i))) (.row .look 15 0 z13 (encL (Ss.sub s))) (.row .look 12 0 z6 (encL (Ss.ins s))) (.row .look 12 0 z7 (encL (Ss.out s))) (.row .look 1 0 z8 (encL (Ss.fb s))) (.row .mine 12 0 z6 (encL (Ss.ins s))) (.row .mine 12 0 z7 (encL (Ss.out s))) (.row .mine 1 0 z8 (encL (Ss.fb s))))) (List.length (Ss.ins s)) (List.length (Ss.out s)) (List.length (Ss.fb s)) (List.length (Ss.sub s)) (List.length (List.set (Ss.sub s) (sdI (nrm s)) (nxW (sdW (nrm s))))) (List.length (frL (o6_ (sdW (nrm s))))) ⟨5,0,some 0⟩ ⟨7,0,some 0⟩ ⟨8,0,some 0⟩ ⟨4,0,some 0⟩ ⟨6,0,some 0⟩ (.bool (Ss.on s)) (.bool (Ss.ba s)):=by kernel_rfl
theorem aky_(s:Ss)(k:Int)(β:Bs)(N:Kt):c0_ Tryz.prog D2_ 100 20 β (fun _=>0) (cnOf 4 fun _=>slSd) (fun _ _=>False) 8 0 4 lvSd (FSd s k) (SSd s) N=
 (fun(z6 z9 z10 z11 z13:Nat) (z7:Value) (z29:Addr)=>((fun(z1:Wt) (z4 z15 z16 z17 z18 z19 z22 z23:AObj) (z36:Bool)=>((fun(z3:ASt) (z12 z20 z21 z25 z26 z27 z28 z30 z31 z32 z33 z34:Value) (z14:Nat)=>((fun(z0:List Td) (z5:List Im)=>((fun(z8:Im) (z35:Nat)=>((fun(z2:List Td)=>((fun(z24:Nat)=>(br (decide (k<Int.ofNat z6)) (need (decide ((0:Int)≤k)) (need z36 (need (Nat.ble 0 z13&&Nat.blt z13 z6) (need (true&&Nat.ble (0+List.length (Wt.qu z1)) z14) (need (okA1 (Sc Wt) (fun x=>true) [Ta.agg z0]) (br (!nxE (Enc.dec (nthT z0))) (need (decide ((0:Int)≤k)) (need z36 (need (true&&Nat.ble (0+List.length (List.tail z5)) z35) (need (Nat.blt z13 z6) (need (okA1 (Sc Ms) (fun m=>fitM (Sc.x m)) [Ta.agg z2]) (N .ret (mkF 61 [(2,.pointer (some z29)),(3,.slice (some ⟨9,0,some 0⟩) z24 1)]) (mkS [some z22,some z17,some z15,some z18,some z4,some z23,some z19,some z16,some (.row .mine 15 0 z6 (putT z13 0 [.sc z12,.sc z30,.sc z31,.sc z32,.sc z25,.sc z26,.sc (.float .f64 (fltD (.sc z20))),.sc z33,.sc (.bool (bolD (.sc (.bool (Wt.ha z1))))),.sc (.bool (bolD (.sc (.bool (Wt.lo z1))))),.sc z27,.sc z28,.sc (.float .f64 (fltD (.sc z21))),.sc z34,.fr 5 z35 (bif nxE (Enc.dec (nthT z0))then Wt.cqu z1 else 0) fun i=>encL (List.tail z5) (0+i)] (encL (Ss.sub s)))),some (.row .mine 1 0 z24 (encL (frL (Enc.dec (nthT z2)))))]))))))) (N .normal (mkF 61 [(1,.pointer (some z29)),(2,.pointer (some ⟨9,0,none⟩)),(28,.slice (some ⟨8,0,some 0⟩) z6 (Ss.csub s)),(29,.int .i64 (Int.ofNat z6)),(30,.int .i64 (IntKind.wrap .i64 (k+(1:Int))))]) z3))))))) (N (.exit 0) (mkF 61 [(1,.pointer (some z29)),(2,.pointer (some ⟨9,0,none⟩))]) z3))) (List.length (frL (Enc.dec (nthT z2)))))) [.sc (.int .i64 (7:Int)),.sc z7,.sc z7,.sc z12,.sc (.int .i64 (Im.sq z8)),.sc (.bool (Im.lo z8)),.sc z7,.sc z7,.sc z7,.sc (.float .f64 0),.fr 0 0 1 noT,.fr 3 1 0 (selT 3 1 [.sc (.int .i64 (Vl.k (Im.v z8))),.sc (.int .i64 (Vl.i (Im.v z8))),.sc (.float .f64 (Vl.f (Im.v z8)))])])) (nxI (Enc.dec (nthT z0))) (List.length (List.tail z5)))) [.sc z12,.sc z30,.sc z31,.sc z32,.sc z25,.sc z26,.sc z20,.sc z33,.sc (.bool (Wt.ha z1)),.sc (.bool (Wt.lo z1)),.sc z27,.sc z28,.sc z21,.sc z34,.fr 5 z14 (Wt.cqu z1) fun i=>encL (Wt.qu z1) (0+i)] (a4_ Im (.fr 5 z14 (Wt.cqu z1) fun i=>encL (Wt.qu z1) (0+i))))) (mkS [some z22,some z17,some z15,some z18,some z4,some z23,some z19,some z16,some (.row .mine 15 0 z6 (encL (Ss.sub s))),some (.cells [.bool false,.int .i64 (0:Int),.slice none 0 0,.bool false,.slice none 0 0,.slice none 0 0,.slice none 0 0,.int .i64 (0:Int)] true 0)]) (.int .i64 (Wt.nu z1)) (.float .f64 (Vl.f (Wt.bd z1))) (.float .f64 (Vl.f (Wt.la z1))) (.int .i64 (Vl.k (Wt.bd z1))) (.int .i64 (Vl.i (Wt.bd z1))) (.int .i64 (Vl.k (Wt.la z1))) (.int .i64 (Vl.i (Wt.la z1))) (.int .i64 (Wt.ad z1)) (.int .i64 (Wt.ev z1)) (.int .i64 (Wt.du z1)) (.int .i64 (Wt.mo z1)) (.int .i64 (Wt.sq z1)) (List.length (Wt.qu z1)))) (List.getD (Ss.sub s) z13 Enc.dflt) (.cells [.bool (Ss.on s),.int .i64 (Ss.se s),.slice (some ⟨5,0,some 0⟩) z11 (Ss.cfb s),.bool (Ss.ba s),.slice (some ⟨6,0,some 0⟩) z9 (Ss.cins s),.slice (some ⟨7,0,some 0⟩) z10 (Ss.cout s),.slice (some ⟨8,0,some 0⟩) z6 (Ss.csub s),.int .i64 (Ss.num s)] true 0) (.row .look 12 0 z10 (encL (Ss.out s))) (.row .mine 12 0 z10 (encL (Ss.out s))) (.row .look 12 0 z9 (encL (Ss.ins s))) (.row .look 15 0 z6 (encL (Ss.sub s))) (.row .mine 12 0 z9 (encL (Ss.ins s))) (.row .look 1 0 z11 (encL (Ss.fb s))) (.row .mine 1 0 z11 (encL (Ss.fb s))) (Nat.blt (Int.toNat k) z6))) (List.length (Ss.sub s)) (List.length (Ss.ins s)) (List.length (Ss.out s)) (List.length (Ss.fb s)) (0+Int.toNat k) (.int .i64 (0:Int)) ⟨4,0,none⟩:=by kernel_rfl
end Go.Proofs.YtachglcffimmeaaGreat.Ev
