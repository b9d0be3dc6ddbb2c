/-
  What has to hold: printed by the evaluator.
-/
import Derived.Test.YtachglcffimmeaaGreatR26
import Derived.Test.YtachglcffimmeaaGreatR20
import Derived.Test.YtachglcffimmeaaGreatR25
set_option linter.unusedVariables false
set_option maxRecDepth 1000000
set_option linter.unusedSimpArgs false
namespace Go.Proofs.YtachglcffimmeaaGreat.Ev
open Go Go.Proofs Go.RowKit
def nuA(l:List U8)(n:Int):Int×Int:=numF l n 9
def nuE(l:List U8)(n:Int):Int×Int:=numF l (nuA l n).2 20
def nuM(l:List U8)(n:Int):Int×Int:=numF l (nuE l n).2 3
def nuK(l:List U8)(n:Int):Int×Int:=numF l (nuM l n).2 4
def nwW(l:List U8)(i n:Int):Wt:=w0 i (nuA l n).1 (nuE l n).1 (1+(nuM l n).1)
def amD_(l:List U8)(c:Nat)(se i:Int)(ins out:List Ms)(sub:List Wt)(n2:Int)(w:Wt):Nat→Kt→Prop:=fun b K=>K (.exit b) (FMd4 i 0) (SMd4 l c n2 se ins out sub w)
def aoe_(b:Nat):List Nat:=cond (Nat.beq b 6) [2,3,4,7,8,9] [2,3,4,7]
theorem aho_(l:List U8)(c:Nat)(n se i n2:Int)(w:Wt)(ins out:List Ms)(sub:List Wt)(β:Bs)(Nx:Kt):c0_ Tryz.prog toldM6 100 20 β (fun _=>0) (cnOf 1 aoe_) (amD_ l c se i ins out sub n2 w) 7 4 1 (fun _=>[2,3,4,7]) (FMd 7 i) (SMd3 l c n se ins out sub) Nx=
 (fun(z1:AObj) (z7 z9 z11 z17 z18:Nat) (z10 z14 z15 z16:Addr)=>((fun(z2 z3 z5 z6 z12:AObj)=>((fun(z0:List U8)=>((fun(z13:Int×Int)=>((fun(z4:Int×Int)=>((fun(z8:Int×Int)=>((fun(z19:Int×Int)=>(br (decide (i>(0:Int))) (need (rowB U8 z7 c (some z3)&&List.all z0 (okA U8)&&decide ((0:Int)≤n)&&true) (need (rowB U8 z7 c (some z3)&&List.all z0 (okA U8)&&decide ((0:Int)≤Prod.snd z13)&&true) (need (rowB U8 z7 c (some z3)&&List.all z0 (okA U8)&&decide ((0:Int)≤Prod.snd z4)&&true) (need (rowB U8 z7 c (some z3)&&List.all z0 (okA U8)&&decide ((0:Int)≤Prod.snd z8)&&true) (LoopJ Tryz.prog β (amD_ l c se i ins out sub n2 w) 6 (a5_ Tryz.prog 7 6) (mkF 87 [(2,.pointer (some z14)),(3,.pointer (some z15)),(4,.pointer (some z16)),(7,.int .i64 i),(8,.pointer (some ⟨7,0,none⟩)),(9,.int .i64 (Prod.fst z19))]) (mkS [some z3,some z1,some (.cells [.slice (some z10) z7 c,.int .i64 (Prod.snd z19)] true 0),some z2,some z5,some z6,some z12,some (.cells [.int .i64 i,.int .i64 (Prod.fst z13),.int .i64 (Prod.fst z4),.int .i64 (0:Int),.int .i64 (0:Int),.int .i64 (0:Int),.float .f64 0,.int .i64 (IntKind.wrap .i64 ((1:Int)+Prod.fst z8)),.bool false,.bool false,.int .i64 (0:Int),.int .i64 (0:Int),.float .f64 0,.int .i64 (0:Int),.slice none 0 0] true 0)])∧need (true&&Nat.ble (0+List.length (Wt.qu w)) (List.length (Wt.qu w))) (need (Nat.ble z11 1000000) (need (true&&Nat.ble (0+List.length sub) z9) (Nx .normal (mkF 87 [(2,.pointer (some z14)),(3,.pointer (some z15)),(4,.pointer (some z16)),(7,.int .i64 (IntKind.wrap .i64 (i-(1:Int))))]) (mkS [some z3,some z1,some (.cells [.slice (some z10) z7 c,.int .i64 n2] true 0),some (.cells [.bool true,.int .i64 se,.slice none 0 0,.bool false,.slice (some ⟨4,0,some 0⟩) z17 1,.slice (some ⟨5,0,some 0⟩) z18 1,.slice (some ⟨6,0,some 0⟩) z11 1,.int .i64 (0:Int)] true 0),some z5,some z6,some (.row .mine 15 0 z11 fun j k=>mrgT (Nat.blt j z9) (encL sub (0+j) k) (selT 15 1 [.sc (.int .i64 (Wt.nu w)),.sc (.int .i64 (Wt.ad w)),.sc (.int .i64 (Wt.ev w)),.sc (.int .i64 (Wt.du w)),.sc (.int .i64 (Vl.k (Wt.bd w))),.sc (.int .i64 (Vl.i (Wt.bd w))),.sc (.float .f64 (Vl.f (Wt.bd w))),.sc (.int .i64 (Wt.mo w)),.sc (.bool (Wt.ha w)),.sc (.bool (Wt.lo w)),.sc (.int .i64 (Vl.k (Wt.la w))),.sc (.int .i64 (Vl.i (Wt.la w))),.sc (.float .f64 (Vl.f (Wt.la w))),.sc (.int .i64 (Wt.sq w)),.fr 5 (List.length (Wt.qu w)) (Wt.cqu w) fun i=>encL (Wt.qu w) (0+i)] (j-List.length sub) k))]))))))))) (Nx (.exit 4) (mkF 87 [(2,.pointer (some z14)),(3,.pointer (some z15)),(4,.pointer (some z16)),(7,.int .i64 i)]) (mkS [some z3,some z1,some (.cells [.slice (some z10) z7 c,.int .i64 n] true 0),some z2,some z5,some z6,some z12])))) (numF z0 (Prod.snd z8) (4:Int)))) (numF z0 (Prod.snd z4) (3:Int)))) (numF z0 (Prod.snd z13) (20:Int)))) (numF z0 n (9:Int)))) (rowL U8 z7 (some z3)))) (.cells [.bool true,.int .i64 se,.slice none 0 0,.bool false,.slice (some ⟨4,0,some 0⟩) z17 1,.slice (some ⟨5,0,some 0⟩) z18 1,.slice (some ⟨6,0,some 0⟩) z9 1,.int .i64 (0:Int)] true 0) (.row .look 1 0 z7 (encL l)) (.row .mine 12 0 z17 (encL ins)) (.row .mine 12 0 z18 (encL out)) (.row .mine 15 0 z9 (encL sub)))) (.cells [.bool false,.int .i64 (0:Int),.slice none 0 0,.bool false,.slice none 0 0,.slice none 0 0,.slice none 0 0,.int .i64 (0:Int)] true 0) l.length sub.length (List.length sub+1) ins.length out.length ⟨0,0,some 0⟩ ⟨1,0,none⟩ ⟨2,0,none⟩ ⟨3,0,none⟩:=by kernel_rfl
def suC(l:List U8)(i n:Int):Wt×Int:=wkL l (nuK l n).1.toNat (nuK l n).2 (nwW l i n)
def suL(l:List U8):Nat→Int→List Wt→List Wt×Int
 |0,n,sub=>(sub,n)
 |r+1,n,sub=>suL l r (suC l ((r+1:Nat):Int) n).2 (sub++[(suC l ((r+1:Nat):Int) n).1])
theorem adD_{l:List U8}: ∀(k:Nat) (n:Int) (w:Wt),PkOk l n→PkOk l (wkL l k n w).2
 |0,n,w,h=>h
 |k+1,n,w,h=>adD_ k _ _ (nF_ (m:=13) h (by omega)).2.2
structure PM3 where
 r:Nat
 n:Int
 sub:List Wt
def IMd3(l:List U8)(q:List Wt×Int)(p:PM3):Prop:=PkOk l p.n∧p.sub.length+p.r≤100∧suL l p.r p.n p.sub=q
theorem aiy_{l:List U8}{c:Nat}{se:Int}{ins out:List Ms}{β:Bs}(hβ:β.X.length=1)(hc:c≤1){ex:Nat→Kt→Prop}{r0:Nat}{n0:Int}(hr:r0≤50)(hp:PkOk l n0)
  (hex: ∀K,ex 4 K→K (.exit 4) (FMd 7 0) (SMd3 l c (suL l r0 n0 []).2 se ins out (suL l r0 n0 []).1)):
  LoopJ Tryz.prog β ex 4 (a5_ Tryz.prog 7 4) (FMd 7 (r0:Nat)) (SMd3 l c n0 se ins out []):=by
 refine b2_ (IMd3 l (suL l r0 n0 [])) (fun p:PM3=>FMd 7 (p.r:Nat)) (fun p:PM3=>SMd3 l c p.n se ins out p.sub) (fun p:PM3=>p.r) (fun p hI K hK=> ?_) ⟨r0,n0,[]⟩ ⟨hp,by show 0+r0≤100;omega,rfl⟩
 have hK:=hex K hK
 generalize suL l r0 n0 []=q at hI hK ⊢
 show J _ β _ _ _ (Nn β (IMd3 l q) (fun p:PM3=>p.r) (fun p:PM3=>FMd 7 (p.r:Nat)) (fun p:PM3=>SMd3 l c p.n se ins out p.sub) p K)
 obtain⟨r,n,sub⟩:=p
 obtain⟨g1,g2,g3⟩:=hI
 have g1:PkOk l n:=g1
 have g2:sub.length+r≤100:=g2
 have g3:suL l r n sub=q:=g3
 obtain⟨a0,a1,p1⟩:=nF_ (m:=9) g1 (by omega)
 obtain⟨e0,e1,p2⟩:=nF_ (m:=20) p1 (by omega)
 obtain⟨m0,m1,p3⟩:=nF_ (m:=3) p2 (by omega)
 obtain⟨k0,k1,p4⟩:=nF_ (m:=4) p3 (by omega)
 refine rJ_ (E:=1) (lvs:=aoe_) (un:=fun _=>0) (fuel:=100) (n:=20) (ex:=amD_ l c se (r:Nat) ins out sub (suC l (r:Nat) n).2 (suC l (r:Nat) n).1) follows toldM6_ok hβ (lv:=fun _=>[2,3,4,7]) ?_
 have hb1:=g1.br hc
 have hb2:=Z3_ l
 unfold Br at hb1
 unfold Lr at hb2
 refine(aho_ l c n se (r:Nat) (suC l (r:Nat) n).2 (suC l (r:Nat) n).1 ins out sub β _).mpr ?_
 try dsimp only
 rw[hb1,hb2,g1.all,g1.d,p1.d,p2.d,p3.d]
 cases r with
 |zero=>
  refine a0_ (fun h=>by simp at h) (fun _=> ?_)
  have g3:(sub,n)=q:=g3
  subst g3
  exact Nn.exit (Seen.refl _ _ _) hK
 |succ r=>
  have hw:IntKind.wrap .i64 (((r+1:Nat):Int)-1)=(r:Int):=by rw[w64 (by omega) (by omega)];omega
  have hm:IntKind.wrap .i64 (1+(numF l (numF l (numF l n 9).2 20).2 3).1)=1+(numF l (numF l (numF l n 9).2 20).2 3).1:=w64 (by omega) (by omega)
  have hk:(numF l (numF l (numF l (numF l n 9).2 20).2 3).2 4).1=(((nuK l n).1.toNat:Nat):Int):=by
   show _=(((numF l (numF l (numF l (numF l n 9).2 20).2 3).2 4).1.toNat:Nat):Int)
   omega
  have hkl:(nuK l n).1.toNat≤3:=by
   have:(nuK l n).1<4:=k1
   omega
  have g3:suL l r (suC l ((r+1:Nat):Int) n).2 (sub++[(suC l ((r+1:Nat):Int) n).1])=q:=g3
  rw[hw,hm,hk]
  refine a0_ (fun _=>nd_ rfl (nd_ rfl (nd_ rfl (nd_ rfl ⟨?_,?_⟩)))) (fun h=>by simp at h)
  ·refine LoopJ.seen (f1:=FMd4 ((r+1:Nat):Int) ((nuK l n).1.toNat:Nat)) (st1:=SMd4 l c (nuK l n).2 se ins out sub (w0 ((r+1:Nat):Int) (nuA l n).1 (nuE l n).1 (1+(nuM l n).1))) ?_ (aix_ hβ hc e0 (by show(numF l (numF l n 9).2 20).1<1000;omega) (by show 1≤1+(numF l (numF l (numF l n 9).2 20).2 3).1;omega) hkl p4 (fun K h=>h))
   refine Seen.trans (Seen.void 5 (encL ([]:List Im))) (Seen.objs rfl fun q o2 h=> ?_)
   match q,h with
   |0,h=>cases h;exact⟨_,rfl,rfl,fun _ _ _ h=>h⟩
   |1,h=>cases h;exact⟨_,rfl,rfl,fun _ _ _ h=>h⟩
   |2,h=>cases h;exact⟨_,rfl,rfl,fun _ _ _ h=>h⟩
   |3,h=>cases h;exact⟨_,rfl,rfl,fun _ _ _ h=>h⟩
   |4,h=>cases h;exact⟨_,rfl,rfl,fun _ _ _ h=>h⟩
   |5,h=>cases h;exact⟨_,rfl,rfl,fun _ _ _ h=>h⟩
   |6,h=>cases h;exact⟨_,rfl,rfl,fun _ _ _ h=>h⟩
   |7,h=>cases h;exact⟨_,rfl,rfl,fun _ _ _ h=>ObjR.nilCell (j:=14) (k:=8) rfl h⟩
   |8,h=>cases h;exact⟨_,rfl,rfl,fun _ _ _ h=>h⟩
   |_+9,h=>cases h
  ·generalize hs:suC l ((r+1:Nat):Int) n=s at g3 ⊢
   have hsn:PkOk l s.2:=hs▸adD_ _ _ _ p4
   refine nd_ (by simp) (nd_ (Nat.ble_eq_true_of_le (by omega)) (nd_ (by simp) ?_))
   refine Nn.next (I:=IMd3 l q) (m:=fun p:PM3=>p.r) (F:=fun p:PM3=>FMd 7 (p.r:Nat)) (S:=fun p:PM3=>SMd3 l c p.n se ins out p.sub) (p:=⟨r+1,n,sub⟩) ⟨r,s.2,sub++[s.1]⟩ ⟨hsn,by show(sub++[_]).length+r≤100;rw[List.length_append];simp;omega,g3⟩ (Nat.lt_succ_self _) ?_
   have hl:(sub++[s.1]).length=sub.length+1:=by simp
   refine Seen.objs rfl fun q o2 h=> ?_
   match q,h with
   |0,h=>cases h;exact⟨_,rfl,rfl,fun _ _ _ h=>h⟩
   |1,h=>cases h;exact⟨_,rfl,rfl,fun _ _ _ h=>h⟩
   |2,h=>cases h;exact⟨_,rfl,rfl,fun _ _ _ h=>h⟩
   |3,h=>cases h;exact⟨_,by rw[hl];rfl,rfl,fun _ _ _ h=>h⟩
   |4,h=>cases h;exact⟨_,rfl,rfl,fun _ _ _ h=>h⟩
   |5,h=>cases h;exact⟨_,rfl,rfl,fun _ _ _ h=>h⟩
   |6,h=>
    cases h
    exact⟨_,rfl,rfl,fun _ _ _ h=>k6_ (α:=Wt) (a:=s.1) rfl rfl (fun _ _=>rfl) (fun j hj=>by
     have hj:j<15:=hj
     have z1:=encZ s.1.qu
     rw[z1]
     match j,hj with
     |0,_=>rfl
     |1,_=>rfl
     |2,_=>rfl
     |3,_=>rfl
     |4,_=>rfl
     |5,_=>rfl
     |6,_=>rfl
     |7,_=>rfl
     |8,_=>rfl
     |9,_=>rfl
     |10,_=>rfl
     |11,_=>rfl
     |12,_=>rfl
     |13,_=>rfl
     |14,_=>rfl) h⟩
   |_+7,h=>cases h
def seP(l:List U8):Int×Int:=numF l 0 9
def i0P(l:List U8):Int×Int:=numF l (seP l).2 4
def inP(l:List U8):List Ms×Int:=inL l (i0P l).1.toNat (i0P l).2 []
def o0P(l:List U8):Int×Int:=numF l (inP l).2 3
def ouP(l:List U8):List Ms×Int:=ouL l (o0P l).1.toNat (o0P l).2 []
def s0P(l:List U8):Int×Int:=numF l (ouP l).2 4
def suP(l:List U8):List Wt×Int:=suL l (s0P l).1.toNat (s0P l).2 []
def onQ(l:List U8):Int×Int:=numF l (suP l).2 5
def exMd(l:List U8)(c:Nat):Nat→Kt→Prop:=fun b K=>cond (Nat.beq b 0) (K (.exit 0) (FMd 5 0) (SMd1 l c (inP l).2 (seP l).1 (inP l).1)) (cond (Nat.beq b 2) (K (.exit 2) (FMd 6 0) (SMd2 l c (ouP l).2 (seP l).1 (inP l).1 (ouP l).1)) (K (.exit 4) (FMd 7 0) (SMd3 l c (suP l).2 (seP l).1 (inP l).1 (ouP l).1 (suP l).1)))
theorem akG_(l:List U8)(c:Nat)(β:Bs)(K:AE→List (Option AObj)→Prop):lawE Tryz.prog toldM6 100 20 β (fun _=>0) (cnOf 1 slMd) (exMd l c) 7 [.slice (some ⟨0,0,some 0⟩) l.length c] (mkS [some (rowO .look l)]) (outC 1 K)=
 (fun(z1:AObj) (z4 z5 z6 z16:Nat) (z9 z11 z12 z13:Addr) (z10:Int)=>((fun(z2 z3 z8:AObj)=>((fun(z0:List U8)=>((fun(z7 z14 z15:Int×Int)=>((fun(z17:Int×Int)=>(need (rowB U8 z4 c (some z2)&&List.all z0 (okA U8)&&true&&true) (need (rowB U8 z4 c (some z2)&&List.all z0 (okA U8)&&decide ((0:Int)≤Prod.snd z7)&&true) (LoopJ Tryz.prog β (exMd l c) 0 (a5_ Tryz.prog 7 0) (mkF 87 [(2,.pointer (some z11)),(3,.pointer (some z12)),(4,.pointer (some z13)),(5,.int .i64 (Prod.fst z17))]) (mkS [some z2,some z1,some (.cells [.slice (some z9) z4 c,.int .i64 (Prod.snd z17)] true 0),some (.cells [.bool true,.int .i64 (Prod.fst z7),.slice none 0 0,.bool false,.slice none 0 0,.slice none 0 0,.slice none 0 0,.int .i64 (0:Int)] true 0)])∧need (rowB U8 z4 c (some z2)&&List.all z0 (okA U8)&&decide ((0:Int)≤Prod.snd (inP l))&&true) (LoopJ Tryz.prog β (exMd l c) 2 (a5_ Tryz.prog 7 2) (mkF 87 [(2,.pointer (some z11)),(3,.pointer (some z12)),(4,.pointer (some z13)),(6,.int .i64 (Prod.fst z14))]) (mkS [some z2,some z1,some (.cells [.slice (some z9) z4 c,.int .i64 (Prod.snd z14)] true 0),some (.cells [.bool true,.int .i64 z10,.slice none 0 0,.bool false,.slice (some ⟨4,0,some 0⟩) z5 1,.slice none 0 0,.slice none 0 0,.int .i64 (0:Int)] true 0),some z3])∧need (rowB U8 z4 c (some z2)&&List.all z0 (okA U8)&&decide ((0:Int)≤Prod.snd (ouP l))&&true) (LoopJ Tryz.prog β (exMd l c) 4 (a5_ Tryz.prog 7 4) (mkF 87 [(2,.pointer (some z11)),(3,.pointer (some z12)),(4,.pointer (some z13)),(7,.int .i64 (Prod.fst z15))]) (mkS [some z2,some z1,some (.cells [.slice (some z9) z4 c,.int .i64 (Prod.snd z15)] true 0),some (.cells [.bool true,.int .i64 z10,.slice none 0 0,.bool false,.slice (some ⟨4,0,some 0⟩) z5 1,.slice (some ⟨5,0,some 0⟩) z6 1,.slice none 0 0,.int .i64 (0:Int)] true 0),some z3,some z8])∧need (rowB U8 z4 c (some z2)&&List.all z0 (okA U8)&&decide ((0:Int)≤Prod.snd (suP l))&&true) (K (.returned (Value.agg (Array.mk [.bool (decide (Prod.fst (numF z0 (Prod.snd (suP l)) (5:Int))>(0:Int))),.int .i64 z10,.slice none 0 0,.bool false,.slice (some ⟨1,0,some 0⟩) z5 1,.slice (some ⟨2,0,some 0⟩) z6 1,.slice (some ⟨3,0,some 0⟩) z16 1,.int .i64 (0:Int)]))) [some z2,some z3,some z8,some (.row .mine 15 0 z16 (encL (Prod.fst (suP l))))]))))))) (numF z0 (Prod.snd z7) (4:Int)))) (numF z0 (0:Int) (9:Int)) (numF z0 (Prod.snd (inP l)) (3:Int)) (numF z0 (Prod.snd (ouP l)) (4:Int)))) (rowL U8 z4 (some z2)))) (.row .look 1 0 z4 (encL l)) (.row .mine 12 0 z5 (encL (Prod.fst (inP l)))) (.row .mine 12 0 z6 (encL (Prod.fst (ouP l)))))) (.cells [.bool false,.int .i64 (0:Int),.slice none 0 0,.bool false,.slice none 0 0,.slice none 0 0,.slice none 0 0,.int .i64 (0:Int)] true 0) l.length (List.length (Prod.fst (inP l))) (List.length (Prod.fst (ouP l))) (List.length (Prod.fst (suP l))) ⟨0,0,some 0⟩ ⟨1,0,none⟩ ⟨2,0,none⟩ ⟨3,0,none⟩ (Prod.fst (seP l)):=by kernel_rfl
theorem abV_{l:List U8}: ∀(r:Nat) (n:Int) (x:List Ms),PkOk l n→PkOk l (inL l r n x).2
 |0,n,x,h=>h
 |r+1,n,x,h=>abV_ r _ _ (aaY_ _ h)
theorem abJ_{l:List U8}: ∀(r:Nat) (n:Int) (x:List Ms),PkOk l n→PkOk l (ouL l r n x).2
 |0,n,x,h=>h
 |r+1,n,x,h=>abJ_ r _ _ (acv_ h)
theorem ajJ_{l:List U8}{n:Int}(i:Int)(h:PkOk l n):PkOk l (suC l i n).2:=
 adD_ _ _ _ (nF_ (m:=4) (nF_ (m:=3) (nF_ (m:=20) (nF_ (m:=9) h (by omega)).2.2 (by omega)).2.2 (by omega)).2.2 (by omega)).2.2
theorem ajH_{l:List U8}: ∀(r:Nat) (n:Int) (x:List Wt),PkOk l n→PkOk l (suL l r n x).2
 |0,n,x,h=>h
 |r+1,n,x,h=>ajH_ r _ _ (ajJ_ _ h)
def n1_(l:List U8):Ss:=⟨decide ((onQ l).1>0),(seP l).1,[],1,false,(inP l).1,1,(ouP l).1,1,(suP l).1,1,0⟩
theorem afK_:c5_ Tryz.prog 7 (okA1 (Rw U8) fun r=>r.l.all (okA U8)) (g9_ (Rw U8) fun r=> .ret (ansO (n1_ r.l))):=by
 refine l0_ follows fun r hg hp=>⟨toldM6,100,20,fun _=>0,slMd,exMd r.l r.c,toldM6_ok,fun β hβ=> ?_⟩
 obtain⟨l,c⟩:=r
 obtain⟨g1,g2,g3⟩:=hg
 have g1:l.all (okA U8)=true:=g1
 have g2:l.length≤1000000:=g2
 have g3:c≤1:=g3
 show lawE Tryz.prog toldM6 100 20 β (fun _=>0) (cnOf 1 slMd) (exMd l c) 7 [.slice (some ⟨0,0,some 0⟩) l.length c] (mkS [some (rowO .look l)]) (outC 1 fun r m=> ∃m2,a6_ m m2∧ansE (.ret (ansO (n1_ l))) r (mkS m2))
 refine(akG_ l c β _).mpr ?_
 try dsimp only
 have hp0:PkOk l 0:=⟨g1,g2,Int.le_refl _⟩
 have hb1:=hp0.br g3
 have hb2:=Z3_ l
 unfold Br at hb1
 unfold Lr at hb2
 obtain⟨s0,s1,p1⟩:=nF_ (m:=9) hp0 (by omega)
 obtain⟨i0,i1,p2⟩:=nF_ (m:=4) p1 (by omega)
 have p3:PkOk l (inP l).2:=abV_ _ _ _ p2
 obtain⟨o0,o1,p4⟩:=nF_ (m:=3) p3 (by omega)
 have p5:PkOk l (ouP l).2:=abJ_ _ _ _ p4
 obtain⟨u0,u1,p6⟩:=nF_ (m:=4) p5 (by omega)
 have p7:PkOk l (suP l).2:=ajH_ _ _ _ p6
 have e1:(numF l (numF l 0 9).2 4).1=(((i0P l).1.toNat:Nat):Int):=by
  show _=(((numF l (numF l 0 9).2 4).1.toNat:Nat):Int)
  omega
 have e2:(numF l (inP l).2 3).1=(((o0P l).1.toNat:Nat):Int):=by
  show _=(((numF l (inP l).2 3).1.toNat:Nat):Int)
  omega
 have e3:(numF l (ouP l).2 4).1=(((s0P l).1.toNat:Nat):Int):=by
  show _=(((numF l (ouP l).2 4).1.toNat:Nat):Int)
  omega
 rw[hb1,hb2,g1,p1.d,p3.d,p5.d,p7.d,e1,e2,e3]
 refine nd_ rfl (nd_ rfl ⟨?_,nd_ rfl ⟨?_,nd_ rfl ⟨?_,nd_ rfl ?_⟩⟩⟩)
 ·refine LoopJ.seen (f1:=FMd 5 ((i0P l).1.toNat:Nat)) (st1:=SMd1 l c (i0P l).2 (seP l).1 []) ?_ (aiA_ (r0:=(i0P l).1.toNat) (n0:=(i0P l).2) hβ g3 (fun K h=>h) (by have:(i0P l).1<4:=i1;omega) p2)
  refine Seen.trans (Seen.void 12 (encL ([]:List Ms))) (Seen.objs rfl fun q o2 h=> ?_)
  match q,h with
  |0,h=>cases h;exact⟨_,rfl,rfl,fun _ _ _ h=>h⟩
  |1,h=>cases h;exact⟨_,rfl,rfl,fun _ _ _ h=>h⟩
  |2,h=>cases h;exact⟨_,rfl,rfl,fun _ _ _ h=>h⟩
  |3,h=>cases h;exact⟨_,rfl,rfl,fun _ _ _ h=>ObjR.nilCell (j:=4) (k:=4) rfl h⟩
  |4,h=>cases h;exact⟨_,rfl,rfl,fun _ _ _ h=>h⟩
  |_+5,h=>cases h
 ·refine LoopJ.seen (f1:=FMd 6 ((o0P l).1.toNat:Nat)) (st1:=SMd2 l c (o0P l).2 (seP l).1 (inP l).1 []) ?_ (aiz_ (r0:=(o0P l).1.toNat) (n0:=(o0P l).2) hβ g3 (fun K h=>h) (by have:(o0P l).1<3:=o1;omega) p4)
  refine Seen.trans (Seen.void 12 (encL ([]:List Ms))) (Seen.objs rfl fun q o2 h=> ?_)
  match q,h with
  |0,h=>cases h;exact⟨_,rfl,rfl,fun _ _ _ h=>h⟩
  |1,h=>cases h;exact⟨_,rfl,rfl,fun _ _ _ h=>h⟩
  |2,h=>cases h;exact⟨_,rfl,rfl,fun _ _ _ h=>h⟩
  |3,h=>cases h;exact⟨_,rfl,rfl,fun _ _ _ h=>ObjR.nilCell (j:=5) (k:=5) rfl h⟩
  |4,h=>cases h;exact⟨_,rfl,rfl,fun _ _ _ h=>h⟩
  |5,h=>cases h;exact⟨_,rfl,rfl,fun _ _ _ h=>h⟩
  |_+6,h=>cases h
 ·refine LoopJ.seen (f1:=FMd 7 ((s0P l).1.toNat:Nat)) (st1:=SMd3 l c (s0P l).2 (seP l).1 (inP l).1 (ouP l).1 []) ?_ (aiy_ (r0:=(s0P l).1.toNat) (n0:=(s0P l).2) hβ g3 (by have:(s0P l).1<4:=u1;omega) p6 (fun K h=>h))
  refine Seen.trans (Seen.void 15 (encL ([]:List Wt))) (Seen.objs rfl fun q o2 h=> ?_)
  match q,h with
  |0,h=>cases h;exact⟨_,rfl,rfl,fun _ _ _ h=>h⟩
  |1,h=>cases h;exact⟨_,rfl,rfl,fun _ _ _ h=>h⟩
  |2,h=>cases h;exact⟨_,rfl,rfl,fun _ _ _ h=>h⟩
  |3,h=>cases h;exact⟨_,rfl,rfl,fun _ _ _ h=>ObjR.nilCell (j:=6) (k:=6) rfl h⟩
  |4,h=>cases h;exact⟨_,rfl,rfl,fun _ _ _ h=>h⟩
  |5,h=>cases h;exact⟨_,rfl,rfl,fun _ _ _ h=>h⟩
  |6,h=>cases h;exact⟨_,rfl,rfl,fun _ _ _ h=>h⟩
  |_+7,h=>cases h
 ·refine⟨_,a6_.refl _,[1,2,3],⟨_,rfl,?_⟩,by simp⟩
  refine rS_ rfl rfl (rS_ rfl rfl (rO_ (l1:=[]) (l2:=[1,2,3]) (rN_ rfl rfl) ?_))
  refine rS_ rfl rfl (rO_ (l1:=[1]) (l2:=[2,3]) (h8_ (inP l).1 rfl fun _=>rfl) ?_)
  refine rO_ (l1:=[2]) (l2:=[3]) (h8_ (ouP l).1 rfl fun _=>rfl) ?_
  refine rO_ (l1:=[3]) (l2:=[]) (h8_ (suP l).1 rfl fun _=>rfl) ?_
  exact rS_ rfl rfl i4_
def slSw:List Nat:=[2,3,5]
def lvSw:AX→List Nat:=fun x=>match x with
 | .ret=>[4]
 |_=>slSw
def N1_(a b:Im):Bool:=cond (a.sq==b.sq) (cond (a.lo==b.lo) (cond (a.v.k==b.v.k) (cond (a.v.i==b.v.i) (h6_ a.v.f b.v.f) false) false) false) false
def E0_(l m:List Im):Bool:=(List.range l.length).all fun i=>N1_ (l.getD i Enc.dflt) (m.getD i Enc.dflt)
def FSw(k:Int):AFr:=mkF 104 [(2,.pointer (some ⟨2,0,none⟩)),(3,.pointer (some ⟨3,0,none⟩)),(5,.int .i64 k)]
def FSwr:AFr:=mkF 104 [(4,.bool false)]
def SSw(a b:Wt):ASt:=mkS [some (rowO .look a.qu),some (rowO .look b.qu),some (wtO a 0),some (wtO b 1)]
def SSwr(a b:Wt):ASt:=mkS [some (rowO .look a.qu),some (rowO .look b.qu)]
def exSw(a b:Wt):Nat→Kt→Prop:=fun x K=>(E0_ a.qu b.qu=false→K .ret FSwr (SSwr a b))∧(E0_ a.qu b.qu=true→K (.exit x) (FSw a.qu.length) (SSw a b))
theorem apf_(a b:Wt)(β:Bs)(K:AE→List (Option AObj)→Prop):lawE Tryz.prog toldM6 100 20 β (fun _=>0) (cnOf 2 fun _=>slSw) (exSw a b) 30 [wtV a 0,wtV b 1] (mkS [some (rowO .look a.qu),some (rowO .look b.qu)]) (outC 2 K)=
 (fun(z2 z3:Nat) (z6:AE)=>((fun(z4 z5:AObj)=>((fun(z1:List (Option AObj))=>((fun(z0:Prop)=>(br (Wt.nu a !=Wt.nu b) z0 (br (Wt.ad a !=Wt.ad b) z0 (br (Wt.ev a !=Wt.ev b) z0 (br (Wt.du a !=Wt.du b) z0 (br (Vl.k (Wt.bd a)==Vl.k (Wt.bd b)) (br (Vl.i (Wt.bd a)==Vl.i (Wt.bd b)) (br (!h6_ (Vl.f (Wt.bd a)) (Vl.f (Wt.bd b))) z0 (br (Wt.mo a !=Wt.mo b) z0 (br (!Wt.ha a==Wt.ha b) z0 (br (!Wt.lo a==Wt.lo b) z0 (br (Vl.k (Wt.la a)==Vl.k (Wt.la b)) (br (Vl.i (Wt.la a)==Vl.i (Wt.la b)) (br (!h6_ (Vl.f (Wt.la a)) (Vl.f (Wt.la b))) z0 (br (Wt.sq a !=Wt.sq b) z0 (br (Int.ofNat z2 !=Int.ofNat z3) z0 (LoopJ Tryz.prog β (exSw a b) 0 (a5_ Tryz.prog 30 0) (mkF 104 [(2,.pointer (some ⟨2,0,none⟩)),(3,.pointer (some ⟨3,0,none⟩)),(5,.int .i64 (0:Int))]) (mkS [some z4,some z5,some (.cells [.int .i64 (Wt.nu a),.int .i64 (Wt.ad a),.int .i64 (Wt.ev a),.int .i64 (Wt.du a),.int .i64 (Vl.k (Wt.bd a)),.int .i64 (Vl.i (Wt.bd a)),.float .f64 (Vl.f (Wt.bd a)),.int .i64 (Wt.mo a),.bool (Wt.ha a),.bool (Wt.lo a),.int .i64 (Vl.k (Wt.la a)),.int .i64 (Vl.i (Wt.la a)),.float .f64 (Vl.f (Wt.la a)),.int .i64 (Wt.sq a),.slice (some ⟨0,0,some 0⟩) z2 (Wt.cqu a)] true 0),some (.cells [.int .i64 (Wt.nu b),.int .i64 (Wt.ad b),.int .i64 (Wt.ev b),.int .i64 (Wt.du b),.int .i64 (Vl.k (Wt.bd b)),.int .i64 (Vl.i (Wt.bd b)),.float .f64 (Vl.f (Wt.bd b)),.int .i64 (Wt.mo b),.bool (Wt.ha b),.bool (Wt.lo b),.int .i64 (Vl.k (Wt.la b)),.int .i64 (Vl.i (Wt.la b)),.float .f64 (Vl.f (Wt.la b)),.int .i64 (Wt.sq b),.slice (some ⟨1,0,some 0⟩) z3 (Wt.cqu b)] true 0)])∧(E0_ (Wt.qu a) (Wt.qu b)=false→K z6 z1)∧(E0_ (Wt.qu a) (Wt.qu b)=true→K (.returned (.bool true)) z1))))) z0) z0))))) z0) z0)))))) (K z6 z1))) [some z4,some z5])) (.row .look 5 0 z2 (encL (Wt.qu a))) (.row .look 5 0 z3 (encL (Wt.qu b))))) (List.length (Wt.qu a)) (List.length (Wt.qu b)) (.returned (.bool false)):=by kernel_rfl
theorem akt_(a b:Wt)(k:Int)(β:Bs)(Nx:Kt):c0_ Tryz.prog toldM6 100 20 β (fun _=>0) (cnOf 2 fun _=>slSw) (fun _ _=>False) 30 0 2 lvSw (FSw k) (SSw a b) Nx=
 (fun(z2 z5 z6:Nat)=>((fun(z3 z4:Im) (z7 z8:AObj)=>((fun(z0:ASt) (z1:Prop)=>(br (decide (k<Int.ofNat z5)) (need (decide ((0:Int)≤k)) (need (Nat.blt (Int.toNat k) z5) (need (Nat.ble 0 z2&&Nat.blt z2 z5) (need (decide ((0:Int)≤k)) (need (Nat.blt (Int.toNat k) z6) (need (Nat.ble 0 z2&&Nat.blt z2 z6) (br (Im.sq z3==Im.sq z4) (br (Im.lo z3==Im.lo z4) (br (Vl.k (Im.v z3)==Vl.k (Im.v z4)) (br (Vl.i (Im.v z3)==Vl.i (Im.v z4)) (br (!h6_ (Vl.f (Im.v z3)) (Vl.f (Im.v z4))) z1 (Nx .normal (mkF 104 [(2,.pointer (some ⟨2,0,none⟩)),(3,.pointer (some ⟨3,0,none⟩)),(5,.int .i64 (IntKind.wrap .i64 (k+(1:Int))))]) z0)) z1) z1) z1) z1))))))) (Nx (.exit 0) (mkF 104 [(2,.pointer (some ⟨2,0,none⟩)),(3,.pointer (some ⟨3,0,none⟩)),(5,.int .i64 k)]) z0))) (mkS [some z7,some z8,some (.cells [.int .i64 (Wt.nu a),.int .i64 (Wt.ad a),.int .i64 (Wt.ev a),.int .i64 (Wt.du a),.int .i64 (Vl.k (Wt.bd a)),.int .i64 (Vl.i (Wt.bd a)),.float .f64 (Vl.f (Wt.bd a)),.int .i64 (Wt.mo a),.bool (Wt.ha a),.bool (Wt.lo a),.int .i64 (Vl.k (Wt.la a)),.int .i64 (Vl.i (Wt.la a)),.float .f64 (Vl.f (Wt.la a)),.int .i64 (Wt.sq a),.slice (some ⟨0,0,some 0⟩) z5 (Wt.cqu a)] true 0),some (.cells [.int .i64 (Wt.nu b),.int .i64 (Wt.ad b),.int .i64 (Wt.ev b),.int .i64 (Wt.du b),.int .i64 (Vl.k (Wt.bd b)),.int .i64 (Vl.i (Wt.bd b)),.float .f64 (Vl.f (Wt.bd b)),.int .i64 (Wt.mo b),.bool (Wt.ha b),.bool (Wt.lo b),.int .i64 (Vl.k (Wt.la b)),.int .i64 (Vl.i (Wt.la b)),.float .f64 (Vl.f (Wt.la b)),.int .i64 (Wt.sq b),.slice (some ⟨1,0,some 0⟩) z6 (Wt.cqu b)] true 0)]) (Nx .ret (mkF 104 [(4,.bool false)]) (mkS [some z7,some z8])))) (List.getD (Wt.qu a) z2 Enc.dflt) (List.getD (Wt.qu b) z2 Enc.dflt) (.row .look 5 0 z5 (encL (Wt.qu a))) (.row .look 5 0 z6 (encL (Wt.qu b))))) (0+Int.toNat k) (List.length (Wt.qu a)) (List.length (Wt.qu b)):=by kernel_rfl
def slSs:List Nat:=[0,1,5]
def FSs(l m:List Ms)(c d:Nat)(k:Int):AFr:=mkF 27 [(0,.slice (some ⟨0,0,some 0⟩) l.length c),(1,.slice (some ⟨1,0,some 0⟩) m.length d),(5,.int .i64 k)]
def lvSs:AX→List Nat:=fun x=>match x with
 | .ret=>[4]
 |_=>slSs
def FSsr:AFr:=mkF 27 [(4,.bool false)]
def SSs(l m:List Ms):ASt:=mkS [some (rowO .look l),some (rowO .look m)]
def l4_(l m:List Ms):Bool:=(List.range l.length).all fun i=>c2_ (l.getD i Enc.dflt) (m.getD i Enc.dflt)
def exSs(l m:List Ms)(c d:Nat):Nat→Kt→Prop:=fun b K=>(l4_ l m=false→K .ret FSsr (SSs l m))∧(l4_ l m=true→K (.exit b) (FSs l m c d l.length) (SSs l m))
theorem aph_(l m:List Ms)(c d:Nat)(β:Bs)(K:AE→List (Option AObj)→Prop):lawE Tryz.prog toldM6 100 20 β (fun _=>0) (cnOf 2 fun _=>slSs) (exSs l m c d) 29 [.slice (some ⟨0,0,some 0⟩) l.length c,.slice (some ⟨1,0,some 0⟩) m.length d] (SSs l m) (outC 2 K)=
 (fun(z1:AE) (z2 z3:Nat)=>((fun(z0:List (Option AObj))=>(br (Int.ofNat z2 !=Int.ofNat z3) (K z1 z0) (LoopJ Tryz.prog β (exSs l m c d) 0 (a5_ Tryz.prog 29 0) (mkF 27 [(0,.slice (some ⟨0,0,some 0⟩) z2 c),(1,.slice (some ⟨1,0,some 0⟩) z3 d),(5,.int .i64 (0:Int))]) (mkS z0)∧(l4_ l m=false→K z1 z0)∧(l4_ l m=true→K (.returned (.bool true)) z0)))) [some (.row .look 12 0 z2 (encL l)),some (.row .look 12 0 z3 (encL m))])) (.returned (.bool false)) l.length m.length:=by kernel_rfl
theorem akv_(l m:List Ms)(c d:Nat)(k:Int)(β:Bs)(Nx:Kt):c0_ Tryz.prog toldM6 100 20 β (fun _=>0) (cnOf 2 fun _=>slSs) (fun _ _=>False) 29 0 2 lvSs (FSs l m c d k) (SSs l m) Nx=
 (fun(z5 z6 z7:Nat)=>((fun(z0 z1:Ms) (z4:ASt)=>((fun(z8 z9 z10 z11:Nat)=>((fun(z2 z3:List Td)=>(br (decide (k<Int.ofNat z6)) (need (decide ((0:Int)≤k)) (need (Nat.blt (Int.toNat k) z6) (need (Nat.ble 0 z5&&Nat.blt z5 z6) (need (decide ((0:Int)≤k)) (need (Nat.blt (Int.toNat k) z7) (need (Nat.ble 0 z5&&Nat.blt z5 z7) (need (true&&Nat.ble (0+List.length (Ms.ps z0)) z8) (need (true&&Nat.ble (0+List.length (Ms.vs z0)) z9) (need (true&&Nat.ble (0+List.length (Ms.ps z1)) z10) (need (true&&Nat.ble (0+List.length (Ms.vs z1)) z11) (need (okS2 Ms (fun x x_1=>true) [Ta.agg z2,Ta.agg z3]) (br (!c2_ (Enc.dec (nthT z2)) (Enc.dec (nthT z3))) (Nx .ret (mkF 27 [(4,.bool false)]) z4) (Nx .normal (mkF 27 [(0,.slice (some ⟨0,0,some 0⟩) z6 c),(1,.slice (some ⟨1,0,some 0⟩) z7 d),(5,.int .i64 (IntKind.wrap .i64 (k+(1:Int))))]) z4))))))))))))) (Nx (.exit 0) (mkF 27 [(0,.slice (some ⟨0,0,some 0⟩) z6 c),(1,.slice (some ⟨1,0,some 0⟩) z7 d),(5,.int .i64 k)]) z4))) [.sc (.int .i64 (Ms.k z0)),.sc (.int .i64 (Ms.id z0)),.sc (.int .i64 (Ms.er z0)),.sc (.int .i64 (Ms.n z0)),.sc (.int .i64 (Ms.sq z0)),.sc (.bool (Ms.lo z0)),.sc (.int .i64 (Ms.ev z0)),.sc (.int .i64 (Vl.k (Ms.bd z0))),.sc (.int .i64 (Vl.i (Ms.bd z0))),.sc (.float .f64 (Vl.f (Ms.bd z0))),.fr 1 z8 (Ms.cps z0) fun i=>encL (Ms.ps z0) (0+i),.fr 3 z9 (Ms.cvs z0) fun i=>encL (Ms.vs z0) (0+i)] [.sc (.int .i64 (Ms.k z1)),.sc (.int .i64 (Ms.id z1)),.sc (.int .i64 (Ms.er z1)),.sc (.int .i64 (Ms.n z1)),.sc (.int .i64 (Ms.sq z1)),.sc (.bool (Ms.lo z1)),.sc (.int .i64 (Ms.ev z1)),.sc (.int .i64 (Vl.k (Ms.bd z1))),.sc (.int .i64 (Vl.i (Ms.bd z1))),.sc (.float .f64 (Vl.f (Ms.bd z1))),.fr 1 z10 (Ms.cps z1) fun i=>encL (Ms.ps z1) (0+i),.fr 3 z11 (Ms.cvs z1) fun i=>encL (Ms.vs z1) (0+i)])) (List.length (Ms.ps z0)) (List.length (Ms.vs z0)) (List.length (Ms.ps z1)) (List.length (Ms.vs z1)))) (List.getD l z5 Enc.dflt) (List.getD m z5 Enc.dflt) (mkS [some (.row .look 12 0 z6 (encL l)),some (.row .look 12 0 z7 (encL m))]))) (0+Int.toNat k) l.length m.length:=by kernel_rfl
def slMe:List Nat:=[2,5,6,7]
def FMe(l out:List Ms)(c:Nat)(k:Int):AFr:=mkF 18 [(2,.slice (some ⟨1,0,some 0⟩) out.length 1),(5,.slice (some ⟨0,0,some 0⟩) l.length c),(6,.int .i64 l.length),(7,.int .i64 k)]
def SMe(l out:List Ms):ASt:=mkS [some (rowO .look l),some (rowO .mine out)]
def exMe(l:List Ms)(c:Nat):Nat→Kt→Prop:=fun b K=>K (.exit b) (FMe l l c l.length) (SMe l l)
theorem apv_(l:List Ms)(c:Nat)(β:Bs)(K:AE→List (Option AObj)→Prop):lawE Tryz.prog toldM6 100 20 β (fun _=>0) (cnOf 1 fun _=>slMe) (exMe l c) 48 [.slice (some ⟨0,0,some 0⟩) l.length c] (mkS [some (rowO .look l)]) (outC 1 K)=
 (fun(z0:Nat)=>((fun(z1:AObj)=>(LoopJ Tryz.prog β (exMe l c) 0 (a5_ Tryz.prog 48 0) (mkF 18 [(2,.slice none 0 0),(5,.slice (some ⟨0,0,some 0⟩) z0 c),(6,.int .i64 (Int.ofNat z0)),(7,.int .i64 (0:Int))]) (mkS [some z1])∧K (.returned (.slice (some ⟨1,0,some 0⟩) z0 1)) [some z1,some (.row .mine 12 0 z0 (encL l))])) (.row .look 12 0 z0 (encL l)))) l.length:=by kernel_rfl
theorem akF_(l out:List Ms)(c:Nat)(k:Int)(β:Bs)(Nx:Kt):c0_ Tryz.prog toldM6 100 20 β (fun _=>0) (cnOf 1 fun _=>slMe) (fun _ _=>False) 48 0 1 (fun _=>slMe) (FMe l out c k) (SMe l out) Nx=
 (fun(z1 z6 z7 z9:Nat)=>((fun(z0:Ms) (z8:AObj)=>((fun(z4 z5:Nat)=>((fun(z2 z3:Bool)=>(br (decide (k<Int.ofNat z1)) (need (decide ((0:Int)≤k)) (need (Nat.blt (Int.toNat k) z1) (need (Nat.ble 0 z9&&Nat.blt z9 z1) (need z2 (need (okC 1 [Ta.cell (.fr 1 z4 (Ms.cps z0) fun i=>encL (Ms.ps z0) (0+i))]) (need z3 (need (okC 3 [Ta.cell (.fr 3 z5 (Ms.cvs z0) fun i=>encL (Ms.vs z0) (0+i))]) (need z2 (need z3 (need (Nat.ble z7 1000000) (need (true&&Nat.ble (0+List.length out) z6) (Nx .normal (mkF 18 [(2,.slice (some ⟨1,0,some 0⟩) z7 1),(5,.slice (some ⟨0,0,some 0⟩) z1 c),(6,.int .i64 (Int.ofNat z1)),(7,.int .i64 (IntKind.wrap .i64 (k+(1:Int))))]) (mkS [some z8,some (.row .mine 12 0 z7 fun j k_1=>mrgT (Nat.blt j z6) (encL out (0+j) k_1) (selT 12 1 [.sc (.int .i64 (Ms.k z0)),.sc (.int .i64 (Ms.id z0)),.sc (.int .i64 (Ms.er z0)),.sc (.int .i64 (Ms.n z0)),.sc (.int .i64 (Ms.sq z0)),.sc (.bool (Ms.lo z0)),.sc (.int .i64 (Ms.ev z0)),.sc (.int .i64 (Vl.k (Ms.bd z0))),.sc (.int .i64 (Vl.i (Ms.bd z0))),.sc (.float .f64 (Vl.f (Ms.bd z0))),.fr 1 z4 (Ms.cps z0) fun i=>encL (Ms.ps z0) (0+(0+i)),.fr 3 z5 (Ms.cvs z0) fun i=>encL (Ms.vs z0) (0+(0+i))] (j-List.length out) k_1))]))))))))))))) (Nx (.exit 0) (mkF 18 [(2,.slice (some ⟨1,0,some 0⟩) z6 1),(5,.slice (some ⟨0,0,some 0⟩) z1 c),(6,.int .i64 (Int.ofNat z1)),(7,.int .i64 k)]) (mkS [some z8,some (.row .mine 12 0 z6 (encL out))])))) (true&&Nat.ble (0+List.length (Ms.ps z0)) z4) (true&&Nat.ble (0+List.length (Ms.vs z0)) z5))) (List.length (Ms.ps z0)) (List.length (Ms.vs z0)))) (List.getD l z9 Enc.dflt) (.row .look 12 0 z1 (encL l)))) l.length out.length (List.length out+1) (0+Int.toNat k):=by kernel_rfl
theorem aaF_(l m:List U8):(c4_ l++m).take (l.length+6)=c4_ l:=by
 rw[←l8_,List.take_append_of_le_length (Nat.le_refl _),List.take_length]
theorem age_{l m:List U8}(h:l.length≤200):tkE (c4_ l++m)=0:=by
 have hl:=l8_ l
 have h1: ¬(c4_ l++m).length<2:=by rw[List.length_append];omega
 unfold tkE
 rw[if_neg h1,x4_ h,if_neg (by omega),if_neg (by rw[List.length_append];omega),W6_ h,aaF_,if_pos (J8_ _)]
def nrm(s:Ss):Ss:=⟨s.on,s.se,s.fb,s.cfb,s.ba,s.ins,1,s.out,1,s.sub,s.csub,s.num⟩
def cz(s:Ss):Ss:=⟨s.on,s.se,s.fb,1,s.ba,s.ins,1,s.out,1,s.sub,1,s.num⟩
theorem ael_{α:Type}[Enc α](l:List α){k:Nat}(h:k<l.length):l.take (k+1)=l.take k++[l.getD k Enc.dflt]:=by
 rw[List.take_add_one,List.getElem?_eq_getElem h]
 simp[List.getD,h]
theorem r5_{α:Type}[Enc α]{l:List α}(h:l.all (okA α)=true){k:Nat}(hk:k<l.length):okA α (l.getD k Enc.dflt)=true:=by
 rw[List.all_eq_true]at h
 have:l.getD k Enc.dflt=l[k]:=by simp[List.getD,hk]
 rw[this]
 exact h _ (List.getElem_mem hk)
theorem F6_{α:Type}[Enc α]{l:List α}{c:Nat}(h:l.length≤1000000)(hc:c≤1){es:Nat}(hes:es=Enc.es α){g:Nat→Nat→Td}:okC es [.cell (.fr es l.length c g)]=true:=by
 simp only[okC,Nat.beq_refl,Bool.true_or,Bool.true_and,Nat.ble_eq_true_of_le h,Nat.ble_eq_true_of_le hc]
theorem alV_{l:List Ms}{c:Nat}{β:Bs}(hβ:β.X.length=1)(hl:l.length≤1000000-1)(hok:l.all (okA Ms)=true):LoopJ Tryz.prog β (exMe l c) 0 (a5_ Tryz.prog 48 0) (FMe l [] c (0:Nat)) (SMe l []):=by
 refine C1_ (N:=l.length) (F:=fun k=>FMe l (l.take k) c (k:Nat)) (S:=fun k=>SMe l (l.take k)) (fun K hK=> ?_) (fun k Nx hk h1 h2=> ?_)
 ·show K (.exit 0) (FMe l (l.take l.length) c (l.length:Nat)) (SMe l (l.take l.length))
  rw[List.take_length];exact hK
 refine rJ_ (E:=1) (lvs:=fun _=>slMe) (un:=fun _=>0) (fuel:=100) (n:=20) (ex:=fun _ _=>False) follows toldM6_ok hβ (lv:=fun _=>slMe) ?_
 rw[akF_]
 try dsimp only
 have e0:Int.toNat (k:Int)=k:=Int.toNat_natCast k
 rw[e0,Nat.zero_add]
 refine a0_ (fun hlt=> ?_) (fun hlt=> ?_)
 ·have hlt:k<l.length:=by simpa using hlt
  have hw:IntKind.wrap .i64 ((k:Int)+1)=((k+1:Nat):Int):=w64 (by omega) (by omega)
  obtain⟨a1,a2,a3,a4⟩:=oMa (r5_ hok hlt)
  have ht:=ael_ l hlt
  have hlen:(l.take k).length=k:=by rw[List.length_take];omega
  have hlen1:(l.take (k+1)).length=(l.take k).length+1:=by rw[ht];simp
  rw[hw]
  refine nd_ (by simp) (nd_ (by simpa using hlt) (nd_ (by simpa using hlt) (nd_ (by simp) (nd_ (F6_ a1 a2 rfl) (nd_ (by simp) (nd_ (F6_ a3 a4 rfl) (nd_ (by simp) (nd_ (by simp) (nd_ (Nat.ble_eq_true_of_le (by omega)) (nd_ (by simp) ?_))))))))))
  rw[←hlen1]
  refine h1 hlt _ _ (Seen.objs rfl fun q o2 h=> ?_)
  match q,h with
  |0,h=>cases h;exact⟨_,rfl,rfl,fun _ _ _ h=>h⟩
  |1,h=>
   cases h
   refine⟨_,rfl,rfl,fun _ _ _ h=> ?_⟩
   rw[ht]
   rw[hlen1]at h
   have z1:=encZ (l.getD k Enc.dflt).ps
   have z2:=encZ (l.getD k Enc.dflt).vs
   exact k6_ (α:=Ms) (a:=l.getD k Enc.dflt) rfl rfl (fun _ _=>rfl) (fun j hj=>by
    have hj:j<12:=hj
    simp only[Nat.zero_add]at z1 z2 ⊢
    match j,hj with
    |0,_=>rfl
    |1,_=>rfl
    |2,_=>rfl
    |3,_=>rfl
    |4,_=>rfl
    |5,_=>rfl
    |6,_=>rfl
    |7,_=>rfl
    |8,_=>rfl
    |9,_=>rfl
    |10,_=>rfl
    |11,_=>rfl) h
  |_+2,h=>cases h
 ·have hge: ¬k<l.length:=by simpa using hlt
  have hkn:k=l.length:=by omega
  subst hkn
  exact h2 rfl
theorem alU_:c5_ Tryz.prog 48 (okA1 (Rw Ms) fun r=>Nat.ble r.l.length 100000) (g9_ (Rw Ms) fun r=> .ret (ansW r.l 1)):=by
 refine l0_ follows fun r hg hp=>⟨toldM6,100,20,fun _=>0,fun _=>slMe,exMe r.l r.c,toldM6_ok,fun β hβ=> ?_⟩
 obtain⟨l,c⟩:=r
 obtain⟨g1,g2,g3⟩:=hg
 have hp:l.length≤100000:=Nat.le_of_ble_eq_true hp
 show lawE Tryz.prog toldM6 100 20 β (fun _=>0) (cnOf 1 fun _=>slMe) (exMe l c) 48 [.slice (some ⟨0,0,some 0⟩) l.length c] (mkS [some (rowO .look l)]) (outC 1 fun r m=> ∃m2,a6_ m m2∧ansE (.ret (ansW l 1)) r (mkS m2))
 refine(apv_ l c β _).mpr ?_
 refine⟨LoopJ.seen (f1:=FMe l [] c (0:Nat)) (st1:=SMe l []) (Seen.nilSlot 2 12 (encL ([]:List Ms)) rfl rfl rfl fun t v h=> ?_) (alV_ hβ (by omega) g1),?_⟩
 ·rcases mkFT_get _ _ _ _ h with h2|h2
  ·simp at h2
   rcases h2 with⟨rfl,rfl⟩|⟨rfl,rfl⟩|⟨rfl,rfl⟩|⟨rfl,rfl⟩
   ·exact .inl ⟨rfl,rfl⟩
   ·exact .inr rfl
   ·exact .inr rfl
   ·exact .inr rfl
  ·cases h2
 ·exact⟨_,a6_.refl _,[1],E6_ rfl (fun _=>rfl) (Nat.le_refl _) (by omega) (fun i _ j _=>by rw[Nat.zero_add]),by simp⟩
def toldN1:Told:=toldM6.tree 48 (okA1 (Rw Ms) fun r=>Nat.ble r.l.length 100000) (g9_ (Rw Ms) fun r=> .ret (ansW r.l 1))
theorem toldN1_ok:a8_ Tryz.prog toldN1:=Told.tree_ok toldM6_ok alU_
def slTw:List Nat:=[1,2,24,25,26]
def FTw(s:Ss)(k:Int):AFr:=mkF 41 [(1,.pointer (some ⟨4,0,none⟩)),(2,.pointer (some ⟨9,0,none⟩)),(24,.slice (some ⟨8,0,some 0⟩) s.sub.length s.csub),(25,.int .i64 s.sub.length),(26,.int .i64 k)]
def STw(s:Ss):ASt:=mkS (ssR .look s++[some (ssO (nrm s) 5)]++ssR .mine s++[some (.cells (ssCs zSs nilV nilV nilV nilV) true 0)])
def exTw(s:Ss):Nat→Kt→Prop:=fun b K=>K (.exit b) (FTw s s.sub.length) (STw s)
theorem apd_(s:Ss)(β:Bs)(K:AE→List (Option AObj)→Prop):lawE Tryz.prog toldN1 100 20 β (fun _=>0) (cnOf 4 fun _=>slTw) (exTw s) 25 [ssV s 0] (mkS (ssR .look s)) (outC 4 K)=
 (fun(z2 z3 z4 z5:Nat)=>((fun(z0 z1:Td) (z6 z7 z8 z9:AObj)=>((fun(z10 z11:Nat)=>(need (true&&Nat.ble (0+List.length (Ss.fb s)) z3) (need (okC 1 [Ta.cell (.fr 1 z3 (Ss.cfb s) fun i=>encL (Ss.fb s) (0+i))]) (need (true&&Nat.ble (0+List.length (Ss.ins s)) z4) (need (okA1 (Rw Ms) (fun r=>Nat.ble (List.length (Rw.l r)) 100000) [Ta.cell z0]) (need (true&&Nat.ble (0+List.length (Ss.out s)) z5) (need (okA1 (Rw Ms) (fun r=>Nat.ble (List.length (Rw.l r)) 100000) [Ta.cell z1]) (need (true&&Nat.ble (0+List.length (Ss.sub s)) z2) (need (okC 15 [Ta.cell (.fr 15 z2 (Ss.csub s) fun i=>encL (Ss.sub s) (0+i))]) (LoopJ Tryz.prog β (exTw s) 0 (a5_ Tryz.prog 25 0) (mkF 41 [(1,.pointer (some ⟨4,0,none⟩)),(2,.pointer (some ⟨9,0,none⟩)),(24,.slice (some ⟨8,0,some 0⟩) z2 (Ss.csub s)),(25,.int .i64 (Int.ofNat z2)),(26,.int .i64 (0:Int))]) (mkS [some z9,some z6,some z7,some z8,some (.cells [.bool (Ss.on s),.int .i64 (Ss.se s),.slice (some ⟨5,0,some 0⟩) z3 (Ss.cfb s),.bool (Ss.ba s),.slice (some ⟨6,0,some 0⟩) z10 1,.slice (some ⟨7,0,some 0⟩) z11 1,.slice (some ⟨8,0,some 0⟩) z2 (Ss.csub s),.int .i64 (Ss.num s)] true 0),some (.row .mine 1 0 z3 fun i=>encL (Ss.fb s) (0+i)),some (.row .mine 12 0 z10 (encL (a4_ Ms z0))),some (.row .mine 12 0 z11 (encL (a4_ Ms z1))),some (.row .mine 15 0 z2 fun i=>encL (Ss.sub s) (0+i)),some (.cells [.bool false,.int .i64 (0:Int),.slice none 0 0,.bool false,.slice none 0 0,.slice none 0 0,.slice none 0 0,.int .i64 (0:Int)] true 0)])∧K (.returned (Value.agg (Array.mk [.bool (Ss.on s),.int .i64 (Ss.se s),.slice (some ⟨4,0,some 0⟩) z3 (Ss.cfb s),.bool (Ss.ba s),.slice (some ⟨5,0,some 0⟩) z4 1,.slice (some ⟨6,0,some 0⟩) z5 1,.slice (some ⟨7,0,some 0⟩) z2 (Ss.csub s),.int .i64 (Ss.num s)]))) [some z9,some z6,some z7,some z8,some (.row .mine 1 0 z3 (encL (Ss.fb s))),some (.row .mine 12 0 z4 (encL (Ss.ins s))),some (.row .mine 12 0 z5 (encL (Ss.out s))),some (.row .mine 15 0 z2 (encL (Ss.sub s)))])))))))))) (List.length (a4_ Ms z0)) (List.length (a4_ Ms z1)))) (.fr 12 z4 (Ss.cins s) fun i=>encL (Ss.ins s) (0+i)) (.fr 12 z5 (Ss.cout s) fun i=>encL (Ss.out s) (0+i)) (.row .look 12 0 z4 (encL (Ss.ins s))) (.row .look 12 0 z5 (encL (Ss.out s))) (.row .look 15 0 z2 (encL (Ss.sub s))) (.row .look 1 0 z3 (encL (Ss.fb s))))) (List.length (Ss.sub s)) (List.length (Ss.fb s)) (List.length (Ss.ins s)) (List.length (Ss.out s)):=by kernel_rfl
theorem akr_(s:Ss)(k:Int)(β:Bs)(Nx:Kt):c0_ Tryz.prog toldN1 100 20 β (fun _=>0) (cnOf 4 fun _=>slTw) (fun _ _=>False) 25 0 4 (fun _=>slTw) (FTw s k) (STw s) Nx=
 (fun(z2 z4 z5 z6 z8:Nat) (z3:AObj) (z17:Addr)=>((fun(z0 z10 z11 z12 z13 z14 z15 z16:AObj) (z1:Wt) (z18:Bool)=>((fun(z9:Nat)=>((fun(z7:Bool)=>(br (decide (k<Int.ofNat z2)) (need (decide ((0:Int)≤k)) (need z18 (need (Nat.ble 0 z8&&Nat.blt z8 z2) (need z7 (need (okC 5 [Ta.cell (.fr 5 z9 (Wt.cqu z1) fun i=>encL (Wt.qu z1) (0+i))]) (need (decide ((0:Int)≤k)) (need z18 (need z7 (need (Nat.blt z8 z2) (Nx .normal (mkF 41 [(1,.pointer (some ⟨4,0,none⟩)),(2,.pointer (some ⟨9,0,none⟩)),(24,.slice (some z17) z2 (Ss.csub s)),(25,.int .i64 (Int.ofNat z2)),(26,.int .i64 (IntKind.wrap .i64 (k+(1:Int))))]) (mkS [some z15,some z10,some z11,some z12,some z0,some z16,some z13,some z14,some (.row .mine 15 0 z2 (putT z8 14 [.fr 5 z9 (Wt.cqu z1) fun i=>encL (Wt.qu z1) (0+(0+i))] (encL (Ss.sub s)))),some z3]))))))))))) (Nx (.exit 0) (mkF 41 [(1,.pointer (some ⟨4,0,none⟩)),(2,.pointer (some ⟨9,0,none⟩)),(24,.slice (some z17) z2 (Ss.csub s)),(25,.int .i64 (Int.ofNat z2)),(26,.int .i64 k)]) (mkS [some z15,some z10,some z11,some z12,some z0,some z16,some z13,some z14,some (.row .mine 15 0 z2 (encL (Ss.sub s))),some z3])))) (true&&Nat.ble (0+List.length (Wt.qu z1)) z9))) (List.length (Wt.qu z1)))) (.cells [.bool (Ss.on s),.int .i64 (Ss.se s),.slice (some ⟨5,0,some 0⟩) z6 (Ss.cfb s),.bool (Ss.ba s),.slice (some ⟨6,0,some 0⟩) z4 1,.slice (some ⟨7,0,some 0⟩) z5 1,.slice (some z17) z2 (Ss.csub s),.int .i64 (Ss.num s)] true 0) (.row .look 12 0 z4 (encL (Ss.ins s))) (.row .look 12 0 z5 (encL (Ss.out s))) (.row .look 15 0 z2 (encL (Ss.sub s))) (.row .mine 12 0 z4 (encL (Ss.ins s))) (.row .mine 12 0 z5 (encL (Ss.out s))) (.row .look 1 0 z6 (encL (Ss.fb s))) (.row .mine 1 0 z6 (encL (Ss.fb s))) (List.getD (Ss.sub s) z8 Enc.dflt) (Nat.blt (Int.toNat k) z2))) (List.length (Ss.sub s)) (List.length (Ss.ins s)) (List.length (Ss.out s)) (List.length (Ss.fb s)) (0+Int.toNat k) (.cells [.bool false,.int .i64 (0:Int),.slice none 0 0,.bool false,.slice none 0 0,.slice none 0 0,.slice none 0 0,.int .i64 (0:Int)] true 0) ⟨8,0,some 0⟩:=by kernel_rfl
end Go.Proofs.YtachglcffimmeaaGreat.Ev
