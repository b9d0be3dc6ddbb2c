/-
  mesg.Take: its loops.
-/
import Derived.Test.YtachglcffimmeaaGreatQ32
import Derived.Test.YtachglcffimmeaaGreatQ29
import Derived.Test.YtachglcffimmeaaGreatQ16
set_option linter.unusedVariables false
set_option linter.unusedSimpArgs false
set_option maxRecDepth 1000000
namespace Go.Proofs.YtachglcffimmeaaGreat.Ev
open Go Go.Proofs Go.RowKit
theorem aoZ_{L:List U8}(h:L.all (okA U8)=true)(i:Nat):byA L i<256:=(b64 h i).2
theorem Z0_{L:List U8}(h:L.all (okA U8)=true)(n:Nat)(q:Bool):0≤vlK 1 L n q∧vlK 1 L n q≤255:=by
 unfold vlK
 cases bdK 1 n q with
 |true=>exact⟨Int.le_refl _,by show(0:Int)≤255;omega⟩
 |false=>
  have hb:=aoZ_ h (L.length-n+0)
  have e:beN L (L.length-n) 1=byA L (L.length-n+0):=by
   show 0*256+byA L (L.length-n+0)=_
   omega
  show 0≤IntKind.wrap .i64 ((beN L (L.length-n) 1:Nat):Int)∧IntKind.wrap .i64 ((beN L (L.length-n) 1:Nat):Int)≤255
  rw[e,w64 (by omega) (by omega)]
  omega
def ptB(L:List U8)(s:RT):Bool:=bdK 1 s.n s.q||decide (vlK 1 L s.n s.q>Int.ofNat (s.n-1))
def ptV(L:List U8)(s:RT):St:=⟨cond (ptB L s) (j5_ (vlK 1 L s.n s.q).toNat fun j=>nthT [Td.sc (.int .u8 0)]) (j5_ (vlK 1 L s.n s.q).toNat fun j=>encL L (iK 1 L.length s.n s.q+j))⟩
def ptS(L:List U8)(s:RT):RT:=cond (ptB L s) RT.no ⟨s.n-1-(vlK 1 L s.n s.q).toNat,false⟩
theorem RtOk.ptS{N:Nat}{L:List U8}{s:RT}(h:RtOk N s):RtOk N (ptS L s):=by
 unfold Ev.ptS
 cases ptB L s with
 |true=>exact RtOk.no
 |false=>exact⟨by show s.n-1-_≤N;have:=h.le;omega,fun hq=>by cases hq⟩
def psL(L:List U8):Nat→RT→List St→List St×RT
 |0,s,ps=>(ps,s)
 |r+1,s,ps=>cond s.q (ps,s) (psL L r (ptS L s) (ps++[ptV L s]))
def vsL(L:List U8):Nat→RT→List Vl→List Vl×RT
 |0,s,vs=>(vs,s)
 |r+1,s,vs=>cond s.q (vs,s) (vsL L r (rvS L s) (vs++[rvV L s]))
structure PMt where
 r:Nat
 s:RT
 ps:List St
def d1_(m:Ms)(ps:List St):Ms:=⟨m.k,m.id,m.er,m.n,m.sq,m.lo,m.ev,m.bd,ps,1,[],1⟩
def g5_(m:Ms)(ps:List St)(vs:List Vl):Ms:=⟨m.k,m.id,m.er,m.n,m.sq,m.lo,m.ev,m.bd,ps,1,vs,1⟩
def IMt(L:List U8)(q:List St×RT)(p:PMt):Prop:=RtOk L.length p.s∧p.ps.length+p.r≤1000∧psL L p.r p.s p.ps=q
theorem aak_{L:List U8}{c:Nat}{β:Bs}{m:Ms}{ps:List St}{s s':RT}{x:St}{r:Nat}{rd:AObj}{z:ByteArray}(hs:s'=ptS L s)(hz:(⟨z⟩:St)=ptV L s)(hrd:rd.isOwn=true∧ ∀ρ sp w,ObjR ρ rd sp w→ObjR ρ (RdO L (ptS L s)) sp w):
  Seen β (mkF 90 [(0,.slice (some ⟨0,0,some 0⟩) L.length c),(2,.pointer (some ⟨1,0,none⟩)),(4,.pointer (some ⟨2,0,none⟩)),(5,.pointer (some ⟨3,0,none⟩)),(6,.int .i64 (r:Nat))])
   (mkS [some (rowO .look L),some (.cells (msCs zMs nilV nilV) true 0),some rd,some (.cells (msCs (d1_ m ps) (.slice (some ⟨4,0,some 0⟩) (ps.length+1) 1) nilV) true 0),some (.row .mine 1 0 (ps.length+1) fun j k=>mrgT (Nat.blt j ps.length) (encL ps j k) (selT 1 1 [Td.sc (.string z)] (j-ps.length) k))])
   (FT1 L c (r:Nat)) (ST1 L (ptS L s) (d1_ m (ps++[ptV L s]))):=by
 have hl:(ps++[ptV L s]).length=ps.length+1:=by simp
 refine Seen.objs rfl fun q o2 h=> ?_
 match q,h with
 |0,h=>cases h;exact⟨_,rfl,rfl,fun _ _ _ h=>h⟩
 |1,h=>cases h;exact⟨_,rfl,rfl,fun _ _ _ h=>h⟩
 |2,h=>cases h;exact⟨_,rfl,hrd.1,hrd.2⟩
 |3,h=>cases h;exact⟨_,by rw[←hl];rfl,rfl,fun _ _ _ h=>h⟩
 |4,h=>
  cases h
  refine⟨_,rfl,rfl,fun _ _ _ h=>g0_ (α:=St) (a:=ptV L s) (ts:=[Td.sc (.string z)]) (g:=encL ps) rfl rfl (fun _ _=>rfl) (fun j hj=> ?_) ?_⟩
  ·have hj:j<1:=hj
   match j,hj with
   |0,_=>rw[←hz];rfl
  ·simp only[Nat.zero_add];exact h
 |_+5,h=>cases h
theorem aiy_{L:List U8}{c:Nat}{m:Ms}{β:Bs}(hβ:β.X.length=1)(hL:L.all (okA U8)=true)(hl:L.length≤1000000){ex:Nat→Kt→Prop}{r0:Nat}{s0:RT}(hr:r0≤300)(hs0:RtOk L.length s0)
  (hex: ∀K,ex 0 K→K (.exit 0) (FTx L c) (ST1 L (psL L r0 s0 []).2 (d1_ m (psL L r0 s0 []).1))):
  LoopJ Tryz.prog β ex 0 (a5_ Tryz.prog 39 0) (FT1 L c (r0:Nat)) (ST1 L s0 (d1_ m [])):=by
 refine b2_ (IMt L (psL L r0 s0 [])) (fun p:PMt=>FT1 L c (p.r:Nat)) (fun p:PMt=>ST1 L p.s (d1_ m p.ps)) (fun p:PMt=>p.r) (fun p hI K hK=> ?_) ⟨r0,s0,[]⟩ ⟨hs0,by show 0+r0≤1000;omega,rfl⟩
 have hK:=hex K hK
 generalize psL L r0 s0 []=qq at hI hK ⊢
 show J _ β _ _ _ (Nn β (IMt L qq) (fun p:PMt=>p.r) (fun p:PMt=>FT1 L c (p.r:Nat)) (fun p:PMt=>ST1 L p.s (d1_ m p.ps)) p K)
 obtain⟨r,⟨n,q⟩,ps⟩:=p
 obtain⟨g1,g2,g3⟩:=hI
 have g1:RtOk L.length ⟨n,q⟩:=g1
 have g2:ps.length+r≤1000:=g2
 have g3:psL L r ⟨n,q⟩ ps=qq:=g3
 refine rJ_ (E:=1) (lvs:=slT) (un:=fun _=>0) (fuel:=100) (n:=20) (ex:=fun _ _=>False) follows u0_ hβ (lv:=lvT 0) ?_
 refine(adK_ L c (r:Nat) m.k m.id m.er m.n m.sq m.ev m.lo m.bd ps n q β _).mpr ?_
 try dsimp only
 cases r with
 |zero=>
  have g3:(ps,(⟨n,q⟩:RT))=qq:=g3
  subst g3
  refine a0_ (fun h=>by simp at h) (fun _=> ?_)
  exact Nn.exit (Seen.refl _ _ _) hK
 |succ r=>
  refine a0_ (fun _=> ?_) (fun h=>by simp at h)
  cases q with
  |true=>
   have g3:(ps,(⟨n,true⟩:RT))=qq:=g3
   subst g3
   refine a0_ (fun h=>by simp at h) (fun _=> ?_)
   exact Nn.exit (Seen.refl _ _ _) hK
  |false=>
   have g3:psL L r (ptS L ⟨n,false⟩) (ps++[ptV L ⟨n,false⟩])=qq:=g3
   have hw:IntKind.wrap .i64 (((r+1:Nat):Int)-1)=(r:Int):=by rw[w64 (by omega) (by omega)];omega
   have hn0:=T9_ (s:=⟨n,false⟩) (c:=cond false 1 0) hL hl g1 (c1_ _) rfl
   have hv:=Z0_ hL n false
   have hnx: ∀st:ASt,Seen β (mkF 90 [(0,.slice (some ⟨0,0,some 0⟩) L.length c),(2,.pointer (some ⟨1,0,none⟩)),(4,.pointer (some ⟨2,0,none⟩)),(5,.pointer (some ⟨3,0,none⟩)),(6,.int .i64 (r:Nat))]) st (FT1 L c (r:Nat)) (ST1 L (ptS L ⟨n,false⟩) (d1_ m (ps++[ptV L ⟨n,false⟩])))→
     Nn β (IMt L qq) (fun p:PMt=>p.r) (fun p:PMt=>FT1 L c (p.r:Nat)) (fun p:PMt=>ST1 L p.s (d1_ m p.ps)) ⟨r+1,⟨n,false⟩,ps⟩ K .normal (mkF 90 [(0,.slice (some ⟨0,0,some 0⟩) L.length c),(2,.pointer (some ⟨1,0,none⟩)),(4,.pointer (some ⟨2,0,none⟩)),(5,.pointer (some ⟨3,0,none⟩)),(6,.int .i64 (r:Nat))]) st:=fun st hs=>
    Nn.next (I:=IMt L qq) (m:=fun p:PMt=>p.r) (F:=fun p:PMt=>FT1 L c (p.r:Nat)) (S:=fun p:PMt=>ST1 L p.s (d1_ m p.ps)) (p:=⟨r+1,⟨n,false⟩,ps⟩) ⟨r,ptS L ⟨n,false⟩,ps++[ptV L ⟨n,false⟩]⟩ ⟨g1.ptS,by show(ps++[_]).length+r≤1000;rw[List.length_append];simp;omega,g3⟩ (Nat.lt_succ_self _) hs
   have c0:decide ((0:Int)≤vlK 1 L n false)=true:=decide_eq_true hv.1
   have c1:(Nat.beq (vlK 1 L n false).toNat (vlK 1 L n false).toNat&&Nat.ble (vlK 1 L n false).toNat 1000000)=true:=by rw[Nat.beq_refl,Nat.ble_eq_true_of_le (by omega)];rfl
   have c2:(true&&Nat.ble (vlK 1 L n false).toNat (vlK 1 L n false).toNat)=true:=by simp
   have c3:allB (vlK 1 L n false).toNat (fun j=>nthT [Td.sc (.int .u8 0)])=true:=(RowU.zero 1).allB
   have c4:Nat.ble (ps.length+1) 1000000=true:=Nat.ble_eq_true_of_le (by omega)
   have c5:(true&&Nat.ble ps.length ps.length)=true:=by simp
   rw[ahj_,hw]
   simp only[Nat.zero_add,Nat.add_zero,Nat.sub_zero]
   refine a0_ (fun _=>nd_ hn0 (nd_ hn0 ?_)) (fun h=>by simp at h)
   cases hb:bdK 1 n false with
   |true=>
    have hB:ptB L ⟨n,false⟩=true:=by unfold ptB;rw[hb];rfl
    have hS:ptS L ⟨n,false⟩=RT.no:=by unfold ptS;rw[hB];rfl
    simp only[br_t,hb]
    refine nd_ c0 (nd_ c0 (nd_ c1 (nd_ c0 (nd_ c0 (nd_ c1 (nd_ c2 (nd_ c3 (nd_ c4 (nd_ c5 ?_)))))))))
    refine hnx _ (aak_ (s:=⟨n,false⟩) (x:=⟨⟨#[]⟩⟩) rfl (by unfold ptV;rw[hB];rfl) ⟨rfl,fun _ _ _ h=> ?_⟩)
    rw[hS]
    exact ObjR.nilCell (j:=0) (k:=0) rfl h
   |false=>
    simp only[br_f,hb]
    cases hd:decide (vlK 1 L n false>Int.ofNat (n-1))with
    |true=>
     have hB:ptB L ⟨n,false⟩=true:=by unfold ptB;rw[hb,hd];rfl
     have hS:ptS L ⟨n,false⟩=RT.no:=by unfold ptS;rw[hB];rfl
     simp only[br_t,hd]
     refine nd_ c0 (nd_ c0 (nd_ c1 (nd_ c0 (nd_ c0 (nd_ c1 (nd_ c2 (nd_ c3 (nd_ c4 (nd_ c5 ?_)))))))))
     refine hnx _ (aak_ (s:=⟨n,false⟩) (x:=⟨⟨#[]⟩⟩) rfl (by unfold ptV;rw[hB];rfl) ⟨rfl,fun _ _ _ h=> ?_⟩)
     rw[hS]
     exact ObjR.nilCell (j:=0) (k:=0) rfl h
    |false=>
     have hB:ptB L ⟨n,false⟩=false:=by unfold ptB;rw[hb,hd];rfl
     have hS:ptS L ⟨n,false⟩=⟨n-1-(vlK 1 L n false).toNat,false⟩:=by unfold ptS;rw[hB];rfl
     have hd2:=of_decide_eq_false hd
     simp only[Int.ofNat_eq_natCast]at hd2
     have hle:=g1.le
     have hle:n≤L.length:=hle
     have hi:iK 1 L.length n false=L.length-(n-1):=by unfold iK;rw[hb];rfl
     have hn1:1≤n:=by
      have hb:(false||decide ((1:Int)>Int.ofNat n))=false:=hb
      rw[Bool.false_or]at hb
      have:=of_decide_eq_false hb
      simp only[Int.ofNat_eq_natCast]at this
      omega
     have c6:Nat.ble (vlK 1 L n false).toNat (n-1)=true:=Nat.ble_eq_true_of_le (by omega)
     have c7:(Nat.ble 0 (iK 1 L.length n false)&&Nat.ble (iK 1 L.length n false+(vlK 1 L n false).toNat) L.length)=true:=by
      rw[hi,Nat.ble_eq_true_of_le (Nat.zero_le _),Nat.ble_eq_true_of_le (by omega)];rfl
     simp only[br_f,hd]
     refine nd_ c0 (nd_ c6 (nd_ c0 (nd_ c6 (nd_ c0 (nd_ c6 (nd_ c0 (nd_ c6 (nd_ c7 (nd_ (acm_ _ _ _) (nd_ c4 (nd_ c5 ?_)))))))))))
     refine hnx _ (aak_ (s:=⟨n,false⟩) (x:=⟨⟨#[]⟩⟩) rfl (by unfold ptV;rw[hB];rfl) ⟨rfl,fun _ _ _ h=> ?_⟩)
     rw[hS]
     have e1:iK 1 L.length n false+(vlK 1 L n false).toNat=rdI L.length (n-1-(vlK 1 L n false).toNat) false:=by
      rw[hi]
      show _=L.length-(n-1-(vlK 1 L n false).toNat)
      omega
     have e2:cond (Nat.beq (n-1) 0) (cK 1 n false) 0=0:=by
      unfold cK;rw[hb]
      cases Nat.beq (n-1) 0<;>rfl
     rw[e1,e2]at h
     exact h
structure PMv where
 r:Nat
 s:RT
 vs:List Vl
def IMv(L:List U8)(q:List Vl×RT)(p:PMv):Prop:=RtOk L.length p.s∧p.vs.length+p.r≤1000∧vsL L p.r p.s p.vs=q
theorem aix_{L:List U8}{c:Nat}{m:Ms}{ps:List St}{β:Bs}(hβ:β.X.length=1)(hL:L.all (okA U8)=true)(hl:L.length≤1000000){ex:Nat→Kt→Prop}{r0:Nat}{s0:RT}(hr:r0≤300)(hs0:RtOk L.length s0)
  (hex: ∀K,ex 2 K→K (.exit 2) (FTx L c) (ST2 L (vsL L r0 s0 []).2 (g5_ m ps (vsL L r0 s0 []).1))):
  LoopJ Tryz.prog β ex 2 (a5_ Tryz.prog 39 2) (FT2 L c (r0:Nat)) (ST2 L s0 (g5_ m ps [])):=by
 refine b2_ (IMv L (vsL L r0 s0 [])) (fun p:PMv=>FT2 L c (p.r:Nat)) (fun p:PMv=>ST2 L p.s (g5_ m ps p.vs)) (fun p:PMv=>p.r) (fun p hI K hK=> ?_) ⟨r0,s0,[]⟩ ⟨hs0,by show 0+r0≤1000;omega,rfl⟩
 have hK:=hex K hK
 generalize vsL L r0 s0 []=qq at hI hK ⊢
 show J _ β _ _ _ (Nn β (IMv L qq) (fun p:PMv=>p.r) (fun p:PMv=>FT2 L c (p.r:Nat)) (fun p:PMv=>ST2 L p.s (g5_ m ps p.vs)) p K)
 obtain⟨r,⟨n,q⟩,vs⟩:=p
 obtain⟨g1,g2,g3⟩:=hI
 have g1:RtOk L.length ⟨n,q⟩:=g1
 have g2:vs.length+r≤1000:=g2
 have g3:vsL L r ⟨n,q⟩ vs=qq:=g3
 refine rJ_ (E:=1) (lvs:=slT) (un:=fun _=>0) (fuel:=100) (n:=20) (ex:=fun _ _=>False) follows u0_ hβ (lv:=lvT 2) ?_
 refine(adJ_ L c (r:Nat) m.k m.id m.er m.n m.sq m.ev m.lo m.bd ps vs n q β _).mpr ?_
 try dsimp only
 cases r with
 |zero=>
  have g3:(vs,(⟨n,q⟩:RT))=qq:=g3
  subst g3
  refine a0_ (fun h=>by simp at h) (fun _=> ?_)
  exact Nn.exit (Seen.refl _ _ _) hK
 |succ r=>
  refine a0_ (fun _=> ?_) (fun h=>by simp at h)
  cases q with
  |true=>
   have g3:(vs,(⟨n,true⟩:RT))=qq:=g3
   subst g3
   refine a0_ (fun h=>by simp at h) (fun _=> ?_)
   exact Nn.exit (Seen.refl _ _ _) hK
  |false=>
   have g3:vsL L r (rvS L ⟨n,false⟩) (vs++[rvV L ⟨n,false⟩])=qq:=g3
   have hw:IntKind.wrap .i64 (((r+1:Nat):Int)-1)=(r:Int):=by rw[w64 (by omega) (by omega)];omega
   have hn0:=T9_ (s:=⟨n,false⟩) (c:=cond false 1 0) hL hl g1 (c1_ _) rfl
   rw[ahj_,hw]
   refine a0_ (fun _=>nd_ hn0 (nd_ hn0 (nd_ (Nat.ble_eq_true_of_le (by omega)) (nd_ (by simp) ?_)))) (fun h=>by simp at h)
   refine Nn.next (I:=IMv L qq) (m:=fun p:PMv=>p.r) (F:=fun p:PMv=>FT2 L c (p.r:Nat)) (S:=fun p:PMv=>ST2 L p.s (g5_ m ps p.vs)) (p:=⟨r+1,⟨n,false⟩,vs⟩) ⟨r,rvS L ⟨n,false⟩,vs++[rvV L ⟨n,false⟩]⟩ ⟨g1.rvS,by show(vs++[_]).length+r≤1000;rw[List.length_append];simp;omega,g3⟩ (Nat.lt_succ_self _) ?_
   have hl:(vs++[rvV L ⟨n,false⟩]).length=vs.length+1:=by simp
   refine Seen.objs rfl fun q o2 h=> ?_
   match q,h with
   |0,h=>cases h;exact⟨_,rfl,rfl,fun _ _ _ h=>h⟩
   |1,h=>cases h;exact⟨_,rfl,rfl,fun _ _ _ h=>h⟩
   |2,h=>cases h;exact⟨_,rfl,rfl,fun _ _ _ h=>h⟩
   |3,h=>cases h;exact⟨_,by rw[←hl];rfl,rfl,fun _ _ _ h=>h⟩
   |4,h=>cases h;exact⟨_,rfl,rfl,fun _ _ _ h=>h⟩
   |5,h=>cases h;exact⟨_,rfl,rfl,fun _ _ _ h=>g0_ (α:=Vl) (a:=rvV L ⟨n,false⟩) rfl rfl (fun i j=>rfl) (fun j hj=>by
     have hj:j<3:=hj
     match j,hj with
     |0,_=>rfl
     |1,_=>rfl
     |2,_=>rfl) h⟩
   |_+6,h=>cases h
def t0(L:List U8):RT:=⟨L.length,false⟩
def t1(L:List U8):RT:=(t0 L).nx 1
def t2(L:List U8):RT:=(t1 L).nx 2
def t3(L:List U8):RT:=(t2 L).nx 2
def t4(L:List U8):RT:=(t3 L).nx 2
def t5(L:List U8):RT:=(t4 L).nx 1
def t6'(L:List U8):RT:=(t5 L).nx 1
def t7(L:List U8):RT:=(t6' L).nx 8
def t8(L:List U8):RT:=rvS L (t7 L)
def t9(L:List U8):RT:=(t8 L).nx 1
def hdT(L:List U8):Ms:=⟨(t0 L).vl 1 L,(t1 L).vl 2 L,(t4 L).vl 1 L,(t2 L).vl 2 L,(t3 L).vl 2 L,(t5 L).vl 1 L !=0,(t6' L).vl 8 L,rvV L (t7 L),[],1,[],1⟩
def psT(L:List U8):List St×RT:=psL L ((t8 L).vl 1 L).toNat (t9 L) []
def tA(L:List U8):RT:=(psT L).2.nx 1
def vsT(L:List U8):List Vl×RT:=vsL L ((psT L).2.vl 1 L).toNat (tA L) []
def msT(L:List U8):Ms:=g5_ (hdT L) (psT L).1 (vsT L).1
def d8_(L:List U8):Option Ms:=cond (vsT L).2.q none (cond (Int.ofNat L.length==0) none (cond (!(e7_ (putQ (msT L)) L)) none (some (msT L))))
def H7_(o:Option Ms):Ans:= .rets [ansO (o.getD zMs),.cell (.sc (.bool o.isSome))]
theorem ajX_{L:List U8}: ∀(r:Nat) (s:RT) (ps:List St),RtOk L.length s→RtOk L.length (psL L r s ps).2∧(psL L r s ps).1.length≤ps.length+r
 |0,s,ps,h=>⟨h,Nat.le_refl _⟩
 |r+1,s,ps,h=>by
  unfold psL
  cases s.q with
  |true=>exact⟨h,by show ps.length≤_;omega⟩
  |false=>
   obtain⟨h1,h2⟩:=ajX_ r (ptS L s) (ps++[ptV L s]) h.ptS
   rw[List.length_append]at h2
   exact⟨h1,by simp at h2;simp only[cond_false];omega⟩
theorem ajT_{L:List U8}(s:RT):fV (rvV L s)=true:=by
 unfold fV
 have:(rvV L s).f=rvG L s:=rfl
 have hk:(rvV L s).k=rvK L s:=rfl
 rw[this,hk]
 unfold rvG
 cases h0:rvK L s==0 with
 |true=>simp
 |false=>
 cases h1:rvK L s==1 with
 |true=>simp
 |false=>
 cases h2:rvK L s==2 with
 |true=>simp
 |false=>
 cases h3:rvK L s==3 with
 |true=>simp
 |false=>
 cases h4:rvK L s==4 with
 |true=>simp
 |false=>
 cases h5:rvK L s==5 with
 |true=>
  obtain⟨N,hN,hN2⟩:=C9_ ((s.nx 1).vl 8 L)
  rw[hN]
  simp only[cond_true,cond_false,Int.toNat_natCast,Bool.true_and,Bool.or_eq_true]
  left
  simpa using hN2
 |false=>simp
theorem ajE_{L:List U8}: ∀(r:Nat) (s:RT) (vs:List Vl),RtOk L.length s→vs.all fV=true→RtOk L.length (vsL L r s vs).2∧(vsL L r s vs).1.length≤vs.length+r∧(vsL L r s vs).1.all fV=true
 |0,s,vs,h,hv=>⟨h,Nat.le_refl _,hv⟩
 |r+1,s,vs,h,hv=>by
  unfold vsL
  cases s.q with
  |true=>exact⟨h,by show vs.length≤_;omega,hv⟩
  |false=>
   obtain⟨h1,h2,h3⟩:=ajE_ r (rvS L s) (vs++[rvV L s]) h.rvS (by rw[List.all_append,hv];simp[ajT_])
   rw[List.length_append]at h2
   exact⟨h1,by simp at h2;simp only[cond_false];omega,h3⟩
theorem alC_(m:Ms):(putQ m).all (okA U8)=true∧(putQ m).length≤200:=by
 unfold putQ
 cases mayQ m with
 |false=>exact⟨rfl,by show 0≤200;omega⟩
 |true=>
  cases hd:decide (Int.ofNat (pmV m).length>200)with
  |true=>exact⟨rfl,by show 0≤200;omega⟩
  |false=>
   have:=of_decide_eq_false hd
   simp only[Int.ofNat_eq_natCast]at this
   exact⟨afh_ m,by show(pmV m).length≤200;omega⟩
theorem tnl_(m:List (Option AObj))(o:Option Ms)(h:o=none): ∃m2,a6_ m m2∧ansE (H7_ o) (.returned (.tuple ⟨[.agg ⟨msCs zMs nilV nilV⟩,.bool false]⟩)) (mkS m2):=by
 subst h
 refine⟨m,a6_.refl _,⟨_,[],rfl,⟨[],[],rfl,⟨_,rfl,?_⟩,⟨[],[],rfl,⟨rfl,rfl,rfl⟩,rfl⟩⟩,List.nodup_nil⟩⟩
 refine rS_ rfl rfl (rS_ rfl rfl (rS_ rfl rfl (rS_ rfl rfl (rS_ rfl rfl (rS_ rfl rfl (rS_ rfl rfl (rS_ rfl rfl (rS_ rfl rfl (rS_ rfl rfl ?_)))))))))
 refine rO_ (l1:=[]) (l2:=[]) (rN_ rfl rfl) ?_
 exact rO_ (l1:=[]) (l2:=[]) (rN_ rfl rfl) m1_
theorem r7_(x:AObj)(a:Ms)(h1:a.cps=1)(h2:a.cvs=1)(o:Option Ms)(h:o=some a): ∃m2,a6_ [some x,some (rowO .mine a.ps),some (rowO .mine a.vs)] m2∧ansE (H7_ o) (.returned (.tuple ⟨[.agg ⟨msCs a (.slice (some ⟨1,0,some 0⟩) a.ps.length 1) (.slice (some ⟨2,0,some 0⟩) a.vs.length 1)⟩,.bool true]⟩)) (mkS m2):=by
 subst h
 obtain⟨k,id,er,n,sq,lo,ev,bd,ps,cps,vs,cvs⟩:=a
 have h1:cps=1:=h1
 have h2:cvs=1:=h2
 subst h1 h2
 refine⟨_,a6_.refl _,⟨_,[1,2],rfl,⟨[1,2],[],rfl,⟨_,rfl,?_⟩,⟨[],[],rfl,⟨rfl,rfl,rfl⟩,rfl⟩⟩,by simp⟩⟩
 refine rS_ rfl rfl (rS_ rfl rfl (rS_ rfl rfl (rS_ rfl rfl (rS_ rfl rfl (rS_ rfl rfl (rS_ rfl rfl (rS_ rfl rfl (rS_ rfl rfl (rS_ rfl rfl ?_)))))))))
 refine rO_ (l1:=[1]) (l2:=[2]) (s6_ ps rfl fun _=>rfl) ?_
 exact rO_ (l1:=[2]) (l2:=[]) (s6_ vs rfl fun _=>rfl) m1_
theorem aiw_:c3_ Tryz.prog 39 (okA1 (Rw U8) fun r=>r.l.all (okA U8)) (j4_ (Rw U8) fun r=>H7_ (d8_ r.l)):=by
 refine n4_ follows fun r hg hp=>⟨D0_,100,20,fun _=>0,slT,exT r.l r.c (d1_ (hdT r.l) (psT r.l).1) (psT r.l).2 (msT r.l) (vsT r.l).2,u0_,fun β hβ=> ?_⟩
 obtain⟨L,c⟩:=r
 obtain⟨hL,hl,hc⟩:=hg
 have hL:L.all (okA U8)=true:=hL
 have hl:L.length≤1000000:=hl
 have hc:c≤1:=hc
 show lawE Tryz.prog D0_ 100 20 β (fun _=>0) (cnOf 1 slT) (exT L c (d1_ (hdT L) (psT L).1) (psT L).2 (msT L) (vsT L).2) 39 [.slice (some ⟨0,0,some 0⟩) L.length c] (mkS [some (rowO .look L)]) (outC 1 fun r q=> ∃m2,a6_ q m2∧ansE (H7_ (d8_ L)) r (mkS m2))
 refine(anW_ L c (hdT L).k (hdT L).id (hdT L).er (hdT L).n (hdT L).sq (hdT L).ev (hdT L).lo (hdT L).bd (psT L).1 (psT L).2.n (psT L).2.q (vsT L).1 (vsT L).2.n (vsT L).2.q β _).mpr ?_
 try dsimp only
 have k0:RtOk L.length (t0 L):=⟨Nat.le_refl _,fun h=>by cases h⟩
 have k1:RtOk L.length (t1 L):=k0.nx
 have k2:RtOk L.length (t2 L):=k1.nx
 have k3:RtOk L.length (t3 L):=k2.nx
 have k4:RtOk L.length (t4 L):=k3.nx
 have k5:RtOk L.length (t5 L):=k4.nx
 have k6:RtOk L.length (t6' L):=k5.nx
 have k7:RtOk L.length (t7 L):=k6.nx
 have k8:RtOk L.length (t8 L):=k7.rvS
 have k9:RtOk L.length (t9 L):=k8.nx
 have hpn:=Z0_ hL (t8 L).n (t8 L).q
 have hpn:0≤(t8 L).vl 1 L∧(t8 L).vl 1 L≤255:=hpn
 obtain⟨kP,lP⟩:=ajX_ ((t8 L).vl 1 L).toNat (t9 L) [] k9
 have kP:RtOk L.length (psT L).2:=kP
 have lP:(psT L).1.length≤0+((t8 L).vl 1 L).toNat:=lP
 have kA:RtOk L.length (tA L):=kP.nx
 have hvn:=Z0_ hL (psT L).2.n (psT L).2.q
 have hvn:0≤(psT L).2.vl 1 L∧(psT L).2.vl 1 L≤255:=hvn
 obtain⟨kV,lV,fV'⟩:=ajE_ ((psT L).2.vl 1 L).toNat (tA L) [] kA rfl
 have lV:(vsT L).1.length≤0+((psT L).2.vl 1 L).toNat:=lV
 have fV':(vsT L).1.all fV=true:=fV'
 have nd: ∀(s:RT) (i c:Nat),RtOk L.length s→c≤1→i=rdI L.length s.n s.q→(wB L&&List.all L (okA U8)&&Nat.beq i (rdI (wN L) s.n s.q)&&Nat.ble s.n (wN L)&&(!s.q||Nat.beq s.n 0)&&Nat.ble c 1&&true)=true:=fun s i c hs hc hi=>T9_ hL hl hs hc hi
 have z0:(0:Nat)=rdI L.length L.length false:=by show 0=L.length-L.length;omega
 rw[ahj_]
 refine nd_ (nd (t0 L) 0 c k0 hc z0) (nd_ (nd (t1 L) _ _ k1 (c1_ _) rfl) (nd_ (nd (t2 L) _ _ k2 (c1_ _) rfl) (nd_ (nd (t3 L) _ _ k3 (c1_ _) rfl) (nd_ (nd (t4 L) _ _ k4 (c1_ _) rfl) (nd_ (nd (t5 L) _ _ k5 (c1_ _) rfl) (nd_ (nd (t6' L) _ _ k6 (c1_ _) rfl) (nd_ (nd (t7 L) _ _ k7 (c1_ _) rfl) (nd_ (nd (t8 L) _ _ k8 (c1_ _) rfl) ⟨?_,nd_ (nd (psT L).2 _ _ kP (c1_ _) rfl) ⟨?_,?_⟩⟩))))))))
 ·have e:(t8 L).vl 1 L=((((t8 L).vl 1 L).toNat:Nat):Int):=by omega
  have:=aiy_ (c:=c) (m:=hdT L) (ex:=exT L c (d1_ (hdT L) (psT L).1) (psT L).2 (msT L) (vsT L).2) hβ hL hl (r0:=((t8 L).vl 1 L).toNat) (s0:=t9 L) (by omega) k9 (fun K h=>h)
  rw[←e]at this
  refine LoopJ.seen (f1:=FT1 L c ((t8 L).vl 1 L)) (st1:=ST1 L (t9 L) (d1_ (hdT L) [])) ?_ this
  refine Seen.trans (Seen.void 1 (encL ([]:List St))) (Seen.objs rfl fun q o2 h=> ?_)
  match q,h with
  |0,h=>cases h;exact⟨_,rfl,rfl,fun _ _ _ h=>h⟩
  |1,h=>cases h;exact⟨_,rfl,rfl,fun _ _ _ h=>h⟩
  |2,h=>cases h;exact⟨_,rfl,rfl,fun _ _ _ h=>h⟩
  |3,h=>cases h;exact⟨_,rfl,rfl,fun _ _ _ h=>ObjR.nilCell (j:=10) (k:=4) rfl h⟩
  |4,h=>cases h;exact⟨_,rfl,rfl,fun _ _ _ h=>h⟩
  |_+5,h=>cases h
 ·have e:(psT L).2.vl 1 L=((((psT L).2.vl 1 L).toNat:Nat):Int):=by omega
  have:=aix_ (c:=c) (m:=hdT L) (ps:=(psT L).1) (ex:=exT L c (d1_ (hdT L) (psT L).1) (psT L).2 (msT L) (vsT L).2) hβ hL hl (r0:=((psT L).2.vl 1 L).toNat) (s0:=tA L) (by omega) kA (fun K h=>h)
  rw[←e]at this
  refine LoopJ.seen (f1:=FT2 L c ((psT L).2.vl 1 L)) (st1:=ST2 L (tA L) (g5_ (hdT L) (psT L).1 [])) ?_ this
  refine Seen.trans (Seen.void 3 (encL ([]:List Vl))) (Seen.objs rfl fun q o2 h=> ?_)
  match q,h with
  |0,h=>cases h;exact⟨_,rfl,rfl,fun _ _ _ h=>h⟩
  |1,h=>cases h;exact⟨_,rfl,rfl,fun _ _ _ h=>h⟩
  |2,h=>cases h;exact⟨_,rfl,rfl,fun _ _ _ h=>h⟩
  |3,h=>cases h;exact⟨_,rfl,rfl,fun _ _ _ h=>ObjR.nilCell (j:=11) (k:=5) rfl h⟩
  |4,h=>cases h;exact⟨_,rfl,rfl,fun _ _ _ h=>h⟩
  |5,h=>cases h;exact⟨_,rfl,rfl,fun _ _ _ h=>h⟩
  |_+6,h=>cases h
 ·refine a0_ (fun h1=>tnl_ _ _ (by unfold d8_;rw[h1];rfl)) (fun h1=>a0_ (fun h2=>tnl_ _ _ (by unfold d8_;rw[h1,h2];rfl)) (fun h2=> ?_))
  have hok:okA Ms (msT L)=true:=V7_ (List.all_eq_true.2 fun _ _=>rfl) (by show(psT L).1.length≤_;omega) (Nat.le_refl _) (List.all_eq_true.2 fun _ _=>rfl) (by show(vsT L).1.length≤_;omega) (Nat.le_refl _)
  have hfit:fitM (msT L)=true:=by
   show((vsT L).1.all fV&&fV (rvV L (t7 L)))=true
   rw[fV',ajT_];rfl
  obtain⟨q1,q2⟩:=alC_ (msT L)
  simp only[Nat.zero_add]
  have hd:(Enc.dec (nthT (b1_ (msT L))):Ms)=msT L:=(dE_ _).1
  refine nd_ (by simp) (nd_ (by simp) (nd_ ((aaq_ (msT L)).trans (by rw[hok,hfit];rfl)) (nd_ (by simp) (nd_ (by simp) (nd_ ?_ ?_)))))
  ·have e:ok2 U8 U8 (fun _ _ _ _=>true) [.cell (tdL (putQ (msT L)) (putC (msT L))),.cell (tdL L c)]=true:=by
    show(okT U8 _&&okT U8 _&&true)=true
    rw[b9_ q1 (by omega) (by unfold putC;cases mayQ (msT L)<;>cases decide (Int.ofNat (pmV (msT L)).length>200)<;>simp),b9_ hL hl hc];rfl
   rw[←hd]at e
   exact e
  ·have e1:a3_ U8 (tdL (putQ (msT L)) (putC (msT L)))=putQ (msT L):=lT_ _ _
   have e2:a3_ U8 (tdL L c)=L:=lT_ _ _
   refine a0_ (fun h3=>tnl_ _ _ ?_) (fun h3=> ?_)
   ·have h3:(!e7_ (a3_ U8 (tdL (putQ (Enc.dec (nthT (b1_ (msT L))))) (putC (Enc.dec (nthT (b1_ (msT L))))))) (a3_ U8 (tdL L c)))=true:=h3
    rw[hd,e1,e2]at h3
    unfold d8_;rw[h1,h2,h3];rfl
   ·have h3:(!e7_ (a3_ U8 (tdL (putQ (Enc.dec (nthT (b1_ (msT L))))) (putC (Enc.dec (nthT (b1_ (msT L))))))) (a3_ U8 (tdL L c)))=false:=h3
    rw[hd,e1,e2]at h3
    exact r7_ _ (msT L) rfl rfl _ (by unfold d8_;rw[h1,h2,h3];rfl)
def toldT1:Told:=D0_.tree 39 (okA1 (Rw U8) fun r=>r.l.all (okA U8)) (j4_ (Rw U8) fun r=>H7_ (d8_ r.l))
theorem toldT1_ok:a9_ Tryz.prog toldT1:=Told.tree_ok u0_ aiw_
def tkMs(l:List U8):Option Ms:=match d8_ l with
 |some m=>cond (decide (m.k>5)) none (some m)
 |none=>none
def aql_:Value:= .iface 112 (.agg ⟨[]⟩)
def slCo:List Nat:=[6,7,30,31,32]
def lvCo:AX→List Nat:=fun x=>match x with
 | .panic _=>[6]
 | .exit _=>[6,7]
 |_=>slCo
def dsCo:List ADef:=[ADef.mk (Fn.func 37) [] [.pointer (some ⟨5,0,none⟩)]]
def FCo(ls:List Ld)(k:Int):AFr:=mkFD 66 [(6,.pointer (some ⟨5,0,none⟩)),(7,.pointer (some ⟨10,0,none⟩)),(30,.slice (some ⟨11,0,some 0⟩) ls.length 1),(31,.int .i64 ls.length),(32,.int .i64 k)] dsCo
def FCx:AFr:=mkFD 66 [(6,.pointer (some ⟨5,0,none⟩)),(7,.pointer (some ⟨10,0,none⟩))] dsCo
def FCp:AFr:=mkFD 66 [(6,.pointer (some ⟨5,0,none⟩))] dsCo
def coS(s:Ss)(now:Int)(B:List U8)(cB:Nat)(q:Bool)(ins:List Ms):Ss:=⟨s.on,now,B,cB,q,ins,1,s.out,1,s.sub,s.csub,s.num⟩
def SCp(s:Ss)(b:List U8)(now:Int)(B:List U8)(cB:Nat)(q:Bool)(ins:List Ms):ASt:=mkS (ssR .look s++[some (rowO .look b),some (ssO (coS s now B cB q ins) 6)]++ssR .mine (coS s now B cB q ins))
def SCx(s:Ss)(b:List U8)(now:Int)(B:List U8)(cB:Nat)(q:Bool)(ins:List Ms):ASt:=mkS (ssR .look s++[some (rowO .look b),some (ssO (coS s now B cB q ins) 6)]++ssR .mine (coS s now B cB q ins)++[some (.cells [.slice (some ⟨6,0,some 0⟩) B.length cB,.bool q] true 0)])
def SCo(s:Ss)(b:List U8)(now:Int)(B:List U8)(cB:Nat)(q:Bool)(ins:List Ms)(ls:List Ld):ASt:=mkS (ssR .look s++[some (rowO .look b),some (ssO (coS s now B cB q ins) 6)]++ssR .mine (coS s now B cB q ins)++[some (.cells [.slice (some ⟨6,0,some 0⟩) B.length cB,.bool q] true 0),some (rowO .mine ls)])
def exCo(s:Ss)(b:List U8)(now:Int):Nat→Kt→Prop:=fun _ K=>(∀ms:List Ms,loadsM tkMs (fdL s.ba s.fb b)=some ms→K (.exit 0) FCx (SCx s b now (fdB s.ba s.fb b) (fdC s.ba s.fb s.cfb b) (fdQ s.ba s.fb b) (s.ins++ms)))∧(loadsM tkMs (fdL s.ba s.fb b)=none→ ∀ins:List Ms,K (.panic aql_) FCp (SCp s b now (fdB s.ba s.fb b) (fdC s.ba s.fb s.cfb b) (fdQ s.ba s.fb b) ins))
theorem apK_(s:Ss)(b:List U8)(d:Nat)(now:Int)(β:Bs)(K:AE→List (Option AObj)→Prop):lawE Tryz.prog toldT1 100 20 β (fun _=>0) (cnOf 5 fun _=>slCo) (exCo s b now) 13 [ssV s 0,.slice (some ⟨4,0,some 0⟩) b.length d,.int .i64 now] (mkS (ssR .look s++[some (rowO .look b)])) (outC 5 K)=
 (fun(z5:AE) (z14 z15 z17 z18 z34:Nat) (z16 z35:Bool) (z19 z28 z29:Addr) (z27:List U8) (z30:Value)=>((fun(z1:Bool) (z2:List U8) (z6 z7:List Ms) (z8:List Wt) (z9 z10 z11 z12 z13:AObj) (z23:Td)=>((fun(z3:List (Option AObj)) (z4:List U8) (z20 z31 z32 z33:Nat)=>((fun(z0:List U8) (z24 z25 z26:AObj)=>((fun(z21 z22 z36:Nat)=>(need (true&&Nat.ble (0+List.length (Ss.fb s)) z18) (need (true&&Nat.ble (0+List.length (Ss.ins s)) z17) (need (true&&Nat.ble (0+List.length (Ss.out s)) z14) (need (true&&Nat.ble (0+List.length (Ss.sub s)) z15) (need (okA1 (Sc Ss) (fun s=>fitS (Sc.x s)) [Ta.agg [.sc z30,.sc (.int .i64 (Ss.se s)),.fr 1 z18 (Ss.cfb s) fun i=>encL (Ss.fb s) (0+i),.sc (.bool (Ss.ba s)),.fr 12 z17 (Ss.cins s) fun i=>encL (Ss.ins s) (0+i),.fr 12 z14 (Ss.cout s) fun i=>encL (Ss.out s) (0+i),.fr 15 z15 (Ss.csub s) fun i=>encL (Ss.sub s) (0+i),.sc (.int .i64 (Ss.num s))]]) (br (!Ss.on s) (K (.returned (Value.agg (Array.mk [.bool (bolD (.sc z30)),.int .i64 (Ss.se s),.slice (some ⟨5,0,some 0⟩) z20 (Ss.cfb s),.bool z16,.slice (some z19) z31 1,.slice (some z28) z32 1,.slice (some z29) z33 (Ss.csub s),.int .i64 (Ss.num s)]))) [some z12,some z9,some z10,some z11,some z13,some (.row .mine 1 0 z20 (encL z2)),some z24,some z25,some z26]) (need (true&&Nat.ble (0+List.length z2) z20) (need (true&&Nat.ble (0+List.length b) z34) (need (okFd [Ta.agg [.fr 1 z20 (Ss.cfb s) fun i=>encL z2 (0+i),.sc (.bool z16)],Ta.cell z23]) (LoopJ Tryz.prog β (exCo s b now) 0 (a5_ Tryz.prog 13 0) (mkFD 66 [(6,.pointer (some ⟨5,0,none⟩)),(7,.pointer (some ⟨10,0,none⟩)),(30,.slice (some ⟨11,0,some 0⟩) z21 1),(31,.int .i64 (Int.ofNat z21)),(32,.int .i64 (0:Int))] [ADef.mk (Fn.func 37) [] [.pointer (some ⟨5,0,none⟩)]]) (mkS [some z12,some z9,some z10,some z11,some z13,some (.cells [.bool (bolD (.sc z30)),.int .i64 now,.slice (some z19) z22 z36,.bool (fdQ z1 z0 z4),.slice (some z28) z31 1,.slice (some z29) z32 1,.slice (some ⟨9,0,some 0⟩) z33 (Ss.csub s),.int .i64 (Ss.num s)] true 0),some (.row .mine 1 0 z22 (encL (fdB z1 z0 z4))),some z24,some z25,some z26,some (.cells [.slice (some z19) z22 z36,.bool (fdQ z1 z0 z4)] true 0),some (.row .mine 1 0 z21 (encL (fdL z1 z0 z4)))])∧(∀(ms:List Ms),loadsM tkMs (fdL (Ss.ba s) (Ss.fb s) b)=some ms→br z35 (K z5 z3) (br (decide (Int.ofNat (List.length (Ss.ins s++ms))>(6:Int))) (K z5 z3) (K (.returned (Value.agg (Array.mk [.bool (Ss.on s),.int .i64 now,.slice (some ⟨5,0,some 0⟩) z27.length (fdC (Ss.ba s) (Ss.fb s) (Ss.cfb s) b),.bool z35,.slice (some z19) (List.length (Ss.ins s++ms)) 1,.slice (some z28) z14 1,.slice (some z29) z15 (Ss.csub s),.int .i64 (Ss.num s)]))) [some z12,some z9,some z10,some z11,some z13,some (.row .mine 1 0 z27.length (encL z27)),some (.row .mine 12 0 (List.length (Ss.ins s++ms)) (encL (Ss.ins s++ms))),some (.row .mine 12 0 z14 (encL (Ss.out s))),some (.row .mine 15 0 z15 (encL (Ss.sub s)))])))∧(loadsM tkMs (fdL (Ss.ba s) (Ss.fb s) b)=none→ ∀(ins:List Ms),K z5 z3)))))))))))) (List.length (fdL z1 z0 z4)) (List.length (fdB z1 z0 z4)) (fdC z1 z0 (Ss.cfb s) z4))) (a3_ U8 (.fr 1 z20 (Ss.cfb s) fun i=>encL z2 (0+i))) (.row .mine 12 0 z31 (encL z6)) (.row .mine 12 0 z32 (encL z7)) (.row .mine 15 0 z33 (encL z8)))) [some z12,some z9,some z10,some z11,some z13] (a3_ U8 z23) z2.length z6.length z7.length z8.length)) (aaT_ (.sc (.bool z16))) (a3_ U8 (.fr 1 z18 (Ss.cfb s) fun i=>encL (Ss.fb s) (0+i))) (a3_ Ms (.fr 12 z17 (Ss.cins s) fun i=>encL (Ss.ins s) (0+i))) (a3_ Ms (.fr 12 z14 (Ss.cout s) fun i=>encL (Ss.out s) (0+i))) (a3_ Wt (.fr 15 z15 (Ss.csub s) fun i=>encL (Ss.sub s) (0+i))) (.row .look 12 0 z17 (encL (Ss.ins s))) (.row .look 12 0 z14 (encL (Ss.out s))) (.row .look 15 0 z15 (encL (Ss.sub s))) (.row .look 1 0 z18 (encL
 (Ss.fb s))) (.row .look 1 0 z34 (encL b)) (.fr 1 z34 d fun i=>encL b (0+i)))) (.returned (Value.agg (Array.mk [.bool false,.int .i64 (0:Int),.slice none 0 0,.bool false,.slice none 0 0,.slice none 0 0,.slice none 0 0,.int .i64 (0:Int)]))) (List.length (Ss.out s)) (List.length (Ss.sub s)) (List.length (Ss.ins s)) (List.length (Ss.fb s)) b.length (bolD (.sc (.bool (Ss.ba s)))) (fdQ (Ss.ba s) (Ss.fb s) b) ⟨6,0,some 0⟩ ⟨7,0,some 0⟩ ⟨8,0,some 0⟩ (fdB (Ss.ba s) (Ss.fb s) b) (.bool (Ss.on s)):=by kernel_rfl
theorem akV_(s:Ss)(b:List U8)(now:Int)(B:List U8)(cB:Nat)(q:Bool)(ins:List Ms)(ls:List Ld)(k:Int)(β:Bs)(N:Kt)(ex:Nat→Kt→Prop):T6_ Tryz.prog toldT1 100 20 β (fun _=>0) (cnOf 5 fun _=>slCo) ex 13 0 5 lvCo (FCo ls k) (SCo s b now B cB q ins ls) N=
 (fun(z5 z6 z17 z18 z21 z22 z24:Nat) (z8 z9 z11:AObj) (z19 z20:Addr)=>((fun(z2 z10 z12 z13 z14 z15 z16 z23:AObj) (z3:Ld) (z4:List ADef)=>((fun(z1:Prop) (z7:Td)=>((fun(z0:Ms)=>((fun(z25 z26:Nat)=>(br (decide (k<Int.ofNat z17)) (need (decide ((0:Int)≤k)) (need (Nat.blt (Int.toNat k) z17) (need (Nat.ble 0 z24&&Nat.blt z24 z17) (need (true&&Nat.ble (0+List.length (Ld.l z3)) (List.length (Ld.l z3))) (need (okA1 (Rw U8) (fun r=>List.all (Rw.l r) (okA U8)) [Ta.cell z7]) (br (!Option.isSome (d8_ (a3_ U8 z7))) z1 (br (decide (Ms.k z0>(5:Int))) z1 (need (true&&Nat.ble (0+List.length (Ms.ps z0)) z25) (need (true&&Nat.ble (0+List.length (Ms.vs z0)) z26) (need (Nat.ble z21 1000000) (need (true&&Nat.ble (0+List.length ins) z18) (N .normal (mkFD 66 [(6,.pointer (some z19)),(7,.pointer (some ⟨10,0,none⟩)),(30,.slice (some ⟨11,0,some 0⟩) z17 1),(31,.int .i64 (Int.ofNat z17)),(32,.int .i64 (IntKind.wrap .i64 (k+(1:Int))))] z4) (mkS [some z9,some z8,some z13,some z14,some z11,some (.cells [.bool (Ss.on s),.int .i64 now,.slice (some z20) z22 cB,.bool q,.slice (some ⟨7,0,some 0⟩) z21 1,.slice (some ⟨8,0,some 0⟩) z5 1,.slice (some ⟨9,0,some 0⟩) z6 (Ss.csub s),.int .i64 (Ss.num s)] true 0),some z12,some (.row .mine 12 0 z21 fun j k_1=>mrgT (Nat.blt j z18) (encL ins (0+j) k_1) (selT 12 1 [.sc (.int .i64 (Ms.k z0)),.sc (.int .i64 (Ms.id z0)),.sc (.int .i64 (Ms.er z0)),.sc (.int .i64 (Ms.n z0)),.sc (.int .i64 (Ms.sq z0)),.sc (.bool (Ms.lo z0)),.sc (.int .i64 (Ms.ev z0)),.sc (.int .i64 (Vl.k (Ms.bd z0))),.sc (.int .i64 (Vl.i (Ms.bd z0))),.sc (.float .f64 (Vl.f (Ms.bd z0))),.fr 1 z25 (Ms.cps z0) fun i=>encL (Ms.ps z0) (0+i),.fr 3 z26 (Ms.cvs z0) fun i=>encL (Ms.vs z0) (0+i)] (j-List.length ins) k_1)),some z15,some z16,some z10,some (.row .mine 1 0 z17 (encL ls))]))))))))))))) (N (.exit 0) (mkFD 66 [(6,.pointer (some z19)),(7,.pointer (some ⟨10,0,none⟩))] z4) (mkS [some z9,some z8,some z13,some z14,some z11,some z2,some z12,some z23,some z15,some z16,some z10])))) (List.length (Ms.ps z0)) (List.length (Ms.vs z0)))) (Option.getD (d8_ (a3_ U8 z7)) zMs))) (N (AX.panic (Value.iface 112 (Value.agg (Array.mk [])))) (mkFD 66 [(6,.pointer (some z19))] z4) (mkS [some z9,some z8,some z13,some z14,some z11,some z2,some z12,some z23,some z15,some z16])) (.fr 1 (List.length (Ld.l z3)) (Ld.c z3) fun i=>encL (Ld.l z3) (0+i)))) (.cells [.bool (Ss.on s),.int .i64 now,.slice (some z20) z22 cB,.bool q,.slice (some ⟨7,0,some 0⟩) z18 1,.slice (some ⟨8,0,some 0⟩) z5 1,.slice (some ⟨9,0,some 0⟩) z6 (Ss.csub s),.int .i64 (Ss.num s)] true 0) (.cells [.slice (some z20) z22 cB,.bool q] true 0) (.row .mine 1 0 z22 (encL B)) (.row .look 12 0 z5 (encL (Ss.out s))) (.row .look 15 0 z6 (encL (Ss.sub s))) (.row .mine 12 0 z5 (encL (Ss.out s))) (.row .mine 15 0 z6 (encL (Ss.sub s))) (.row .mine 12 0 z18 (encL ins)) (List.getD ls z24 Enc.dflt) [ADef.mk (Fn.func 37) [] [.pointer (some z19)]])) (List.length (Ss.out s)) (List.length (Ss.sub s)) ls.length ins.length (List.length ins+1) B.length (0+Int.toNat k) (.row .look 12 0 (List.length (Ss.ins s)) (encL (Ss.ins s))) (.row .look 1 0 (List.length (Ss.fb s)) (encL (Ss.fb s))) (.row .look 1 0 b.length (encL b)) ⟨5,0,none⟩ ⟨6,0,some 0⟩:=by kernel_rfl
theorem abt_(a b c d e:Option AObj)(x y:Ss)(h:x=y): ∃m2,a6_ ([a,b,c,d,e]++ssR .mine x) m2∧ansE (.ret (ansO y)) (.returned (ssV x 5)) (mkS m2):=by
 subst h
 refine⟨_,a6_.refl _,[5,6,7,8],⟨_,rfl,?_⟩,by simp⟩
 refine rS_ rfl rfl (rS_ rfl rfl (rO_ (l1:=[5]) (l2:=[6,7,8]) (s6_ x.fb rfl fun _=>rfl) ?_))
 refine rS_ rfl rfl (rO_ (l1:=[6]) (l2:=[7,8]) (s6_ x.ins rfl fun _=>rfl) ?_)
 refine rO_ (l1:=[7]) (l2:=[8]) (s6_ x.out rfl fun _=>rfl) ?_
 refine rO_ (l1:=[8]) (l2:=[]) (s6_ x.sub rfl fun _=>rfl) ?_
 exact rS_ rfl rfl m1_
theorem Z9_(m:List (Option AObj))(y:Ss)(h:zSs=y): ∃m2,a6_ m m2∧ansE (.ret (ansO y)) (.returned (.agg ⟨ssCs zSs nilV nilV nilV nilV⟩)) (mkS m2):=by
 subst h
 refine⟨m,a6_.refl _,[],⟨_,rfl,?_⟩,by simp⟩
 refine rS_ rfl rfl (rS_ rfl rfl (rO_ (l1:=[]) (l2:=[]) (rN_ rfl rfl) ?_))
 refine rS_ rfl rfl (rO_ (l1:=[]) (l2:=[]) (rN_ rfl rfl) ?_)
 refine rO_ (l1:=[]) (l2:=[]) (rN_ rfl rfl) ?_
 refine rO_ (l1:=[]) (l2:=[]) (rN_ rfl rfl) ?_
 exact rS_ rfl rfl m1_
theorem aau_{tk:List U8→Option Ms}{xs:List Ld}{x:Ld}{a:List Ms}(h:loadsM tk xs=some a):loadsM tk (xs++[x])=match tk x.l with
  |none=>none
  |some m=>some (a++[m]):=by
 rw[x9_,h]
 simp only[loadsM]
 cases tk x.l<;>rfl
theorem aav_{tk:List U8→Option Ms}{ls:List Ld}{k:Nat}(h:loadsM tk (ls.take k)=none):loadsM tk ls=none:=by
 rw[←List.take_append_drop k ls,x9_,h]
def ICo(ls:List Ld)(ins0:List Ms)(p:Nat×List Ms):Prop:=p.1≤ls.length∧p.2.length≤ins0.length+p.1∧ ∃ms,loadsM tkMs (ls.take p.1)=some ms∧p.2=ins0++ms
theorem amT_{s:Ss}{b:List U8}{now:Int}{β:Bs}(hβ:β.X.length=5){B:List U8}{cB:Nat}{q:Bool}{ls:List Ld}(hB:B=fdB s.ba s.fb b)(hC:cB=fdC s.ba s.fb s.cfb b)(hq:q=fdQ s.ba s.fb b)(hls:ls=fdL s.ba s.fb b)(hok:ls.all (okA Ld)=true)(hl:s.ins.length+ls.length≤900000):
  LoopJ Tryz.prog β (exCo s b now) 0 (a5_ Tryz.prog 13 0) (FCo ls (0:Nat)) (SCo s b now B cB q s.ins ls):=by
 refine K4_ (ICo ls s.ins) (fun p=>FCo ls (p.1:Nat)) (fun p=>SCo s b now B cB q p.2 ls) (fun p=>ls.length-p.1) (fun p hp K hK=> ?_) (0,s.ins) ⟨Nat.zero_le _,Nat.le_refl _,[],rfl,by simp⟩
 obtain⟨hK1,hK2⟩:=hK
 rw[←hB,←hC,←hq,←hls]at hK1
 rw[←hB,←hC,←hq,←hls]at hK2
 obtain⟨k,ins⟩:=p
 obtain⟨hk,hlen,ms,hms,hins⟩:=hp
 have hk:k≤ls.length:=hk
 have hlen:ins.length≤s.ins.length+k:=hlen
 have hms:loadsM tkMs (ls.take k)=some ms:=hms
 have hins:ins=s.ins++ms:=hins
 have hgoal:T6_ Tryz.prog toldT1 100 20 β (fun _=>0) (cnOf 5 fun _=>slCo) (fun _ _=>False) 13 0 5 lvCo (FCo ls (k:Nat)) (SCo s b now B cB q ins ls) (NnP β (ICo ls s.ins) (fun p=>ls.length-p.1) (fun p=>FCo ls (p.1:Nat)) (fun p=>SCo s b now B cB q p.2 ls) (k,ins) K)→J Tryz.prog β (a5_ Tryz.prog 13 0) (FCo ls (k:Nat)) (SCo s b now B cB q ins ls) (NnP β (ICo ls s.ins) (fun p=>ls.length-p.1) (fun p=>FCo ls (p.1:Nat)) (fun p=>SCo s b now B cB q p.2 ls) (k,ins) K):=fun h=>T5_ follows toldT1_ok hβ h
 refine hgoal ?_
 rw[akV_]
 try dsimp only
 have e0:Int.toNat (k:Int)=k:=Int.toNat_natCast k
 simp only[e0,Nat.zero_add]
 refine a0_ (fun hlt=> ?_) (fun hlt=> ?_)
 ·have hlt:k<ls.length:=by simpa using hlt
  have hw:IntKind.wrap .i64 ((k:Int)+1)=((k+1:Nat):Int):=w64 (by omega) (by omega)
  have c3:Nat.blt k ls.length=true:=by simpa using hlt
  obtain⟨a1,a2,a3⟩:=acN_ (m8_ hok hlt)
  have ht:=R9_ ls hlt
  have hsn:=aau_ (x:=ls.getD k Enc.dflt) hms
  rw[←ht]at hsn
  have z:a3_ U8 (Td.fr 1 (ls.getD k Enc.dflt).l.length (ls.getD k Enc.dflt).c fun i=>encL (ls.getD k Enc.dflt).l i)=(ls.getD k Enc.dflt).l:=lT_ _ _
  rw[hw,z]
  refine nd_ (by simp) (nd_ c3 (nd_ (by rw[c3];rfl) (nd_ (by simp) (nd_ (F2_ a1 a2 a3 a1) ?_))))
  generalize hx:d8_ (ls.getD k Enc.dflt).l=o
  have hnone:tkMs (ls.getD k Enc.dflt).l=none→loadsM tkMs ls=none:=fun h=>by
   rw[h]at hsn
   exact aav_ hsn
  refine a0_ (fun h1=> ?_) (fun h1=>a0_ (fun h2=> ?_) (fun h2=> ?_))
  ·have ho:o=none:=by cases o with|none=>rfl|some m=>cases h1
   have htk:tkMs (ls.getD k Enc.dflt).l=none:=by unfold tkMs;rw[hx,ho]
   exact .inr ⟨_,rfl,rfl,_,_,Seen.refl _ _ _,hK2 (hnone htk) ins⟩
  ·cases o with
   |none=>cases h1
   |some m=>
    have htk:tkMs (ls.getD k Enc.dflt).l=none:=by
     unfold tkMs;rw[hx]
     show cond (decide (m.k>5)) none (some m)=none
     rw[show decide (m.k>5)=true from h2];rfl
    exact .inr ⟨_,rfl,rfl,_,_,Seen.refl _ _ _,hK2 (hnone htk) ins⟩
  ·cases o with
   |none=>cases h1
   |some m=>
    have htk:tkMs (ls.getD k Enc.dflt).l=some m:=by
     unfold tkMs;rw[hx]
     show cond (decide (m.k>5)) none (some m)=some m
     rw[show decide (m.k>5)=false from h2];rfl
    rw[htk]at hsn
    refine nd_ (by simp) (nd_ (by simp) (nd_ (Nat.ble_eq_true_of_le (by omega)) (nd_ (by simp) ?_)))
    refine .inl (.inl ⟨rfl,(k+1,ins++[m]),⟨hlt,by show(ins++[m]).length≤_;rw[List.length_append];simp;omega,ms++[m],hsn,by rw[hins,List.append_assoc]⟩,by show ls.length-(k+1)<ls.length-k;omega,?_⟩)
    have hl1:(ins++[m]).length=ins.length+1:=by simp
    refine Seen.objs rfl fun q o2 h=> ?_
    match q,h with
    |0,h=>cases h;exact⟨_,rfl,rfl,fun _ _ _ h=>h⟩
    |1,h=>cases h;exact⟨_,rfl,rfl,fun _ _ _ h=>h⟩
    |2,h=>cases h;exact⟨_,rfl,rfl,fun _ _ _ h=>h⟩
    |3,h=>cases h;exact⟨_,rfl,rfl,fun _ _ _ h=>h⟩
    |4,h=>cases h;exact⟨_,rfl,rfl,fun _ _ _ h=>h⟩
    |5,h=>cases h;exact⟨_,by rw[←hl1];rfl,rfl,fun _ _ _ h=>h⟩
    |6,h=>cases h;exact⟨_,rfl,rfl,fun _ _ _ h=>h⟩
    |7,h=>
     cases h
     refine⟨_,rfl,rfl,fun _ _ _ h=>g0_ (α:=Ms) (a:=m) (g:=encL ins) rfl rfl (fun _ _=>rfl) (fun j hj=> ?_) (by simp only[Nat.zero_add];exact h)⟩
     have hj:j<12:=hj
     match j,hj with
     |0,_=>rfl
     |1,_=>rfl
     |2,_=>rfl
     |3,_=>rfl
     |4,_=>rfl
     |5,_=>rfl
     |6,_=>rfl
     |7,_=>rfl
     |8,_=>rfl
     |9,_=>rfl
     |10,_=>rfl
     |11,_=>rfl
    |8,h=>cases h;exact⟨_,rfl,rfl,fun _ _ _ h=>h⟩
    |9,h=>cases h;exact⟨_,rfl,rfl,fun _ _ _ h=>h⟩
    |10,h=>cases h;exact⟨_,rfl,rfl,fun _ _ _ h=>h⟩
    |11,h=>cases h;exact⟨_,rfl,rfl,fun _ _ _ h=>h⟩
    |_+12,h=>cases h
 ·have hge: ¬k<ls.length:=by simpa using hlt
  have hkn:k=ls.length:=by omega
  subst hkn
  rw[List.take_length]at hms
  have:=hK1 ms hms
  rw[←hins]at this
  exact .inl (.inr ⟨by simp,by simp,_,_,Seen.refl _ _ _,this⟩)
def fitC(s:Ss)(b:List U8):Bool:=fitS s&&Nat.ble s.fb.length 205&&Nat.ble b.length 100000&&b.all (okA U8)&&Nat.ble s.ins.length 100000
theorem amS_:c3_ Tryz.prog 13 (okA3 (Sc Ss) (Rw U8) Int fun s b _=>fitC s.x b.l) (ann_ (Sc Ss) (Rw U8) Int fun s b now=> .ret (ansO (comeF tkMs s.x b.l now))):=by
 refine aog_ follows fun r t now hr ht _ hp=>⟨toldT1,100,20,fun _=>0,fun _=>slCo,exCo r.x t.l now,toldT1_ok,fun β hβ=> ?_⟩
 obtain⟨s⟩:=r
 obtain⟨b,d⟩:=t
 obtain⟨g1,g2,g3,g4,g5,g6,g7,g8,g9,g10,g11,g12⟩:=r1_ hr
 obtain⟨t1,t2,t3⟩:=ht
 have hp:fitC s b=true:=hp
 unfold fitC at hp
 simp only[Bool.and_eq_true]at hp
 obtain⟨⟨⟨⟨p1,p2⟩,p3⟩,p4⟩,p5⟩:=hp
 have p2:=Nat.le_of_ble_eq_true p2
 have p3:=Nat.le_of_ble_eq_true p3
 have p5:=Nat.le_of_ble_eq_true p5
 have g1:s.fb.all (okA U8)=true:=g1
 show lawE Tryz.prog toldT1 100 20 β (fun _=>0) (cnOf 5 fun _=>slCo) (exCo s b now) 13 [ssV s 0,.slice (some ⟨4,0,some 0⟩) b.length d,.int .i64 now] (mkS (ssR .look s++[some (rowO .look b)])) (outC 5 fun r m=> ∃m2,a6_ m m2∧ansE (.ret (ansO (comeF tkMs s b now))) r (mkS m2))
 refine(apK_ s b d now β _).mpr ?_
 try dsimp only
 have z0:a3_ U8 (Td.fr 1 s.fb.length s.cfb fun i=>encL s.fb i)=s.fb:=lT_ _ _
 have z1:a3_ Ms (Td.fr 12 s.ins.length s.cins fun i=>encL s.ins i)=s.ins:=lT_ _ _
 have z2:a3_ Ms (Td.fr 12 s.out.length s.cout fun i=>encL s.out i)=s.out:=lT_ _ _
 have z3:a3_ Wt (Td.fr 15 s.sub.length s.csub fun i=>encL s.sub i)=s.sub:=lT_ _ _
 have z4:a3_ U8 (Td.fr 1 b.length d fun i=>encL b i)=b:=lT_ _ _
 obtain⟨q1,q2,q3,q4⟩:=amL_ (q:=s.ba) g1 p4 p2
 simp only[Nat.zero_add,z0,z1,z2,z3,z4]
 refine nd_ (by simp) (nd_ (by simp) (nd_ (by simp) (nd_ (by simp) (nd_ ((aaq_ s).trans (by rw[show okA Ss s=true from hr];exact p1)) ?_))))
 refine a0_ (fun h1=> ?_) (fun h1=>nd_ (by simp) (nd_ (by simp) (nd_ ?_ ⟨amT_ (B:=fdB s.ba s.fb b) (cB:=fdC s.ba s.fb s.cfb b) (q:=fdQ s.ba s.fb b) (ls:=fdL s.ba s.fb b) hβ rfl rfl rfl rfl q3 (by omega),fun ms hms=> ?_,fun hms ins=> ?_⟩)))
 ·have hon:s.on=false:=by simpa using h1
  have:=abt_ (some (rowO .look s.fb)) (some (rowO .look s.ins)) (some (rowO .look s.out)) (some (rowO .look s.sub)) (some (rowO .look b)) (nrm s) (comeF tkMs s b now) (X5_ hon).symm
  exact this
 ·refine alQ_ ?_ ?_ ?_ ?_ ?_
  ·exact b9_ g1 g2 g3
  ·rw[show a3_ U8 (Td.fr 1 s.fb.length s.cfb fun i=>encL s.fb i)=s.fb from z0];exact g1
  ·exact b9_ t1 t2 t3
  ·rw[show a3_ U8 (Td.fr 1 b.length d fun i=>encL b i)=b from z4];exact p4
  ·rw[show a3_ U8 (Td.fr 1 s.fb.length s.cfb fun i=>encL s.fb i)=s.fb from z0,show a3_ U8 (Td.fr 1 b.length d fun i=>encL b i)=b from z4];omega
 ·have hon:s.on=true:=by simpa using h1
  have ec:comeF tkMs s b now=cond (fdQ s.ba s.fb b||decide (6<s.ins.length+ms.length)) zSs ⟨true,now,fdB s.ba s.fb b,fdC s.ba s.fb s.cfb b,false,s.ins++ms,1,s.out,1,s.sub,s.csub,s.num⟩:=by
   unfold comeF;rw[hon,hms];rfl
  refine a0_ (fun h2=>Z9_ _ _ ?_) (fun h2=>a0_ (fun h3=>Z9_ _ _ ?_) (fun h3=> ?_))
  ·rw[ec,h2];rfl
  ·have:decide (6<s.ins.length+ms.length)=true:=by
    have:=of_decide_eq_true h3
    simp only[Int.ofNat_eq_natCast,List.length_append]at this
    exact decide_eq_true (by omega)
   rw[ec,this,Bool.or_true];rfl
  ·have hd:decide (6<s.ins.length+ms.length)=false:=by
    have:=of_decide_eq_false h3
    simp only[Int.ofNat_eq_natCast,List.length_append]at this
    exact decide_eq_false (by omega)
   have e2:coS s now (fdB s.ba s.fb b) (fdC s.ba s.fb s.cfb b) (fdQ s.ba s.fb b) (s.ins++ms)=comeF tkMs s b now:=by
    rw[ec,hd];unfold coS;rw[hon,h2];rfl
   have:=abt_ (some (rowO .look s.fb)) (some (rowO .look s.ins)) (some (rowO .look s.out)) (some (rowO .look s.sub)) (some (rowO .look b)) (coS s now (fdB s.ba s.fb b) (fdC s.ba s.fb s.cfb b) (fdQ s.ba s.fb b) (s.ins++ms)) (comeF tkMs s b now) e2
   exact this
 ·have hon:s.on=true:=by simpa using h1
  refine Z9_ _ _ ?_
  unfold comeF;rw[hon,hms];rfl
def ajG_:Told:=toldT1.tree 13 (okA3 (Sc Ss) (Rw U8) Int fun s b _=>fitC s.x b.l) (ann_ (Sc Ss) (Rw U8) Int fun s b now=> .ret (ansO (comeF tkMs s.x b.l now)))
theorem adV_:a9_ Tryz.prog ajG_:=Told.tree_ok toldT1_ok amS_
def z2_:Told:=ajG_.tree 7 (okA1 (Rw U8) fun r=>r.l.all (okA U8)) (j4_ (Rw U8) fun r=> .ret (ansO (f4_ r.l)))
theorem t9_:a9_ Tryz.prog z2_:=Told.tree_ok adV_ afJ_
end Go.Proofs.YtachglcffimmeaaGreat.Ev
