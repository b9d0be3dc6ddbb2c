/-
  sesn.Send: told.
-/
import Derived.Test.YtachglcffimmeaaGreatR34
import Derived.Test.YtachglcffimmeaaGreatR30
set_option linter.unusedVariables false
set_option linter.unusedSimpArgs false
set_option maxRecDepth 1000000
section
namespace Go.Proofs.YtachglcffimmeaaGreat.Ev
open Go Go.Proofs Go.RowKit
theorem decW(w:Wt):(Enc.dec (nthT [Td.sc (.int .i64 w.nu),Td.sc (.int .i64 w.ad),Td.sc (.int .i64 w.ev),Td.sc (.int .i64 w.du),Td.sc (.int .i64 w.bd.k),Td.sc (.int .i64 w.bd.i),Td.sc (.float .f64 w.bd.f),Td.sc (.int .i64 w.mo),Td.sc (.bool w.ha),Td.sc (.bool w.lo),Td.sc (.int .i64 w.la.k),Td.sc (.int .i64 w.la.i),Td.sc (.float .f64 w.la.f),Td.sc (.int .i64 w.sq),Td.fr 5 w.qu.length w.cqu fun i=>encL w.qu i]):Wt)=w:=(dE_ w).1
theorem amG_(w:Wt):(Enc.dec (nthT [Td.sc (.int .i64 7),Td.sc (.int .i64 0),Td.sc (.int .i64 0),Td.sc (.int .i64 w.nu),Td.sc (.int .i64 (nxI w).sq),Td.sc (.bool (nxI w).lo),Td.sc (.int .i64 0),Td.sc (.int .i64 0),Td.sc (.int .i64 0),Td.sc (.float .f64 0),Td.fr 0 0 1 noT,Td.fr 3 1 0 (selT 3 1 [Td.sc (.int .i64 (nxI w).v.k),Td.sc (.int .i64 (nxI w).v.i),Td.sc (.float .f64 (nxI w).v.f)])]):Ms)=o6_ w:=rfl
theorem aou_(w:Wt)(h:fitM (o6_ w)=true):okA1 (Sc Ms) (fun m=>fitM m.x) [Ta.agg [Td.sc (.int .i64 7),Td.sc (.int .i64 0),Td.sc (.int .i64 0),Td.sc (.int .i64 w.nu),Td.sc (.int .i64 (nxI w).sq),Td.sc (.bool (nxI w).lo),Td.sc (.int .i64 0),Td.sc (.int .i64 0),Td.sc (.int .i64 0),Td.sc (.float .f64 0),Td.fr 0 0 1 noT,Td.fr 3 1 0 (selT 3 1 [Td.sc (.int .i64 (nxI w).v.k),Td.sc (.int .i64 (nxI w).v.i),Td.sc (.float .f64 (nxI w).v.f)])]]=true:=by
 have e:Enc.ok Ms (nthT [Td.sc (.int .i64 7),Td.sc (.int .i64 0),Td.sc (.int .i64 0),Td.sc (.int .i64 w.nu),Td.sc (.int .i64 (nxI w).sq),Td.sc (.bool (nxI w).lo),Td.sc (.int .i64 0),Td.sc (.int .i64 0),Td.sc (.int .i64 0),Td.sc (.float .f64 0),Td.fr 0 0 1 noT,Td.fr 3 1 0 (selT 3 1 [Td.sc (.int .i64 (nxI w).v.k),Td.sc (.int .i64 (nxI w).v.i),Td.sc (.float .f64 (nxI w).v.f)])])=true:=rfl
 show(Nat.beq 12 12&&Enc.ok Ms (nthT [Td.sc (.int .i64 7),Td.sc (.int .i64 0),Td.sc (.int .i64 0),Td.sc (.int .i64 w.nu),Td.sc (.int .i64 (nxI w).sq),Td.sc (.bool (nxI w).lo),Td.sc (.int .i64 0),Td.sc (.int .i64 0),Td.sc (.int .i64 0),Td.sc (.float .f64 0),Td.fr 0 0 1 noT,Td.fr 3 1 0 (selT 3 1 [Td.sc (.int .i64 (nxI w).v.k),Td.sc (.int .i64 (nxI w).v.i),Td.sc (.float .f64 (nxI w).v.f)])])&&fitM (o6_ w))=true
 rw[e,h];rfl
theorem alk_{s:Ss}{β:Bs}(hβ:β.X.length=4)(hl:s.sub.length≤100000)(hok:s.sub.all (okA Wt)=true)(hfit: ∀w∈s.sub,fitM (o6_ w)=true):
  LoopJ Tryz.prog β (exSd s) 0 (a5_ Tryz.prog 8 0) (FSd s (0:Nat)) (SSd s):=by
 refine b2_ (fun k:Nat=>k≤s.sub.length∧ ∀j (hj:j<s.sub.length),j<k→nxE s.sub[j]=true) (fun k:Nat=>FSd s (k:Nat)) (fun _=>SSd s) (fun k=>s.sub.length-k) (fun k hI K hK=> ?_) 0 ⟨Nat.zero_le _,fun j _ h=>absurd h (Nat.not_lt_zero j)⟩
 obtain⟨hk,hI⟩:=hI
 obtain⟨hK1,hK2⟩:=hK
 have hg: ∀N:Kt,c0_ Tryz.prog D2_ 100 20 β (fun _=>0) (cnOf 4 fun _=>slSd) (fun _ _=>False) 8 0 4 lvSd (FSd s (k:Nat)) (SSd s) N→J Tryz.prog β (a5_ Tryz.prog 8 0) (FSd s (k:Nat)) (SSd s) N:=fun N h=>rJ_ follows D1_ hβ h
 refine hg _ ?_
 rw[aky_]
 try dsimp only
 have e0:Int.toNat (k:Int)=k:=Int.toNat_natCast k
 have z1:a4_ Im (Td.fr 5 (s.sub.getD k Enc.dflt).qu.length (s.sub.getD k Enc.dflt).cqu fun i=>encL (s.sub.getD k Enc.dflt).qu i)=(s.sub.getD k Enc.dflt).qu:=lT_ _ _
 simp only[e0,Nat.zero_add,decW,amG_,z1]
 refine a0_ (fun hlt=> ?_) (fun hlt=> ?_)
 ·have hlt:k<s.sub.length:=by simpa using hlt
  have hw:IntKind.wrap .i64 ((k:Int)+1)=((k+1:Nat):Int):=w64 (by omega) (by omega)
  have c3:Nat.blt k s.sub.length=true:=by simpa using hlt
  have hge:s.sub.getD k Enc.dflt=s.sub[k]:=by simp[List.getD,hlt]
  have hmem:s.sub.getD k Enc.dflt∈s.sub:=by rw[hge];exact List.getElem_mem hlt
  have hokw:okA Wt (s.sub.getD k Enc.dflt)=true:=List.all_eq_true.1 hok _ hmem
  have hfw:=hfit _ hmem
  rw[hw]
  refine nd_ (by simp) (nd_ c3 (nd_ (by rw[c3];simp) (nd_ (by simp) (nd_ ((x0_ (s.sub.getD k Enc.dflt)).trans (by rw[hokw];rfl)) (a0_ (fun hq=> ?_) (fun hq=> ?_))))))
  ·have hq:nxE (s.sub.getD k Enc.dflt)=false:=by simpa using hq
   have hsd:sdI s=k:=by
    unfold sdI
    rw[List.findIdx_eq hlt]
    refine⟨by rw[←hge,hq];rfl,fun j hj=> ?_⟩
    have:=hI j (by omega) hj
    rw[this];rfl
   have hK1:=hK1 (by omega)
   refine nd_ (by simp) (nd_ c3 (nd_ (by simp) (nd_ c3 (nd_ (aou_ _ hfw) ?_))))
   refine Nn.ret ?_ hK1
   have hsw:sdW s=s.sub.getD k Enc.dflt:=by unfold sdW;rw[hsd]
   unfold FSdr SSdr sdN
   rw[hsw,hsd]
   have hlen:(s.sub.set k (nxW (s.sub.getD k Enc.dflt))).length=s.sub.length:=List.length_set
   refine Seen.objs rfl fun q o2 h=> ?_
   match q,h with
   |0,h=>cases h;exact⟨_,rfl,rfl,fun _ _ _ h=>h⟩
   |1,h=>cases h;exact⟨_,rfl,rfl,fun _ _ _ h=>h⟩
   |2,h=>cases h;exact⟨_,rfl,rfl,fun _ _ _ h=>h⟩
   |3,h=>cases h;exact⟨_,rfl,rfl,fun _ _ _ h=>h⟩
   |4,h=>
    cases h
    refine⟨_,rfl,rfl,fun _ _ _ h=> ?_⟩
    have e:ssL (⟨s.on,s.se,s.fb,s.cfb,s.ba,s.ins,s.cins,s.out,s.cout,s.sub.set k (nxW (s.sub.getD k Enc.dflt)),s.csub,s.num⟩:Ss) 5=ssL s 5:=by
     unfold ssL
     show ssCs _ _ _ _ (.slice _ (s.sub.set k (nxW (s.sub.getD k Enc.dflt))).length _)=_
     rw[hlen];rfl
    unfold ssO
    rw[e]
    exact h
   |5,h=>cases h;exact⟨_,rfl,rfl,fun _ _ _ h=>h⟩
   |6,h=>cases h;exact⟨_,rfl,rfl,fun _ _ _ h=>h⟩
   |7,h=>cases h;exact⟨_,rfl,rfl,fun _ _ _ h=>h⟩
   |8,h=>
    cases h
    refine⟨_,rfl,rfl,fun _ _ _ h=> ?_⟩
    have:=abH_ (α:=Wt) (A:=s.sub) (i0:=k) (off:=0) (a:=nxW (s.sub.getD k Enc.dflt)) (g:=encL s.sub) (ts:=b1_ (nxW (s.sub.getD k Enc.dflt))) hlt (fun _ _ _=>rfl) (fun j _ _ hj=>by
     have hj:j<15:=hj
     match j,hj with
     |0,_=>rfl
     |1,_=>rfl
     |2,_=>rfl
     |3,_=>rfl
     |4,_=>rfl
     |5,_=>rfl
     |6,_=>rfl
     |7,_=>rfl
     |8,_=>rfl
     |9,_=>rfl
     |10,_=>rfl
     |11,_=>rfl
     |12,_=>rfl
     |13,_=>rfl
     |14,_=>rfl) (fun j hj hn=>absurd ⟨Nat.zero_le _,by rw[Nat.zero_add];exact hj⟩ hn)
    exact h.row_TR (e':=encL (s.sub.set k (nxW (s.sub.getD k Enc.dflt)))) hlen fun i _ _ j hj F y ht=>by rw[←this i j hj];exact ht
   |9,h=>cases h;exact⟨_,rfl,rfl,fun _ _ _ h=>h⟩
   |_+10,h=>cases h
  ·have hq:nxE (s.sub.getD k Enc.dflt)=true:=by simpa using hq
   refine .inl ⟨trivial,k+1,⟨hlt,fun j hj hj2=> ?_⟩,by omega,Seen.refl _ _ _⟩
   by_cases hjk:j=k
   ·subst hjk;rw[←hge];exact hq
   ·exact hI j hj (by omega)
 ·have hkn:k=s.sub.length:=by
   have: ¬k<s.sub.length:=by simpa using hlt
   omega
  subst hkn
  have hsd:sdI s=s.sub.length:=by
   unfold sdI
   rw[List.findIdx_eq_length]
   intro w hw
   obtain⟨j,hj,rfl⟩:=List.getElem_of_mem hw
   rw[hI j hj hj];rfl
  exact Nn.exit (Seen.refl _ _ _) (hK2 hsd)
def sdO(s:Ss):Bool:=decide (Int.ofNat s.out.length>0)
def keep{α:Type}(n:Nat)(x:α):α:=match n with
 |0=>x
 |_+1=>x
theorem ami_{α:Type}(n:Nat)(x:α):keep n x=x:=by cases n<;>rfl
def aag_(s:Ss):Ss:=⟨s.on,s.se,s.fb,s.cfb,s.ba,s.ins,1,s.out.tail,cond (sdO s) 0 1,cond (sdO s) s.sub (s.sub.set (sdI s) (nxW (sdW s))),s.csub,s.num⟩
def g4_(s:Ss):Ss:=keep s.ins.length (aag_ s)
theorem t7_(s:Ss):g4_ s=aag_ s:=ami_ _ _
def k5_(s:Ss):List U8:=cond (sdO s) (frL (s.out.getD 0 Enc.dflt)) (cond (decide (sdI s<s.sub.length)) (frL (o6_ (sdW s))) [])
def okSd(s:Ss):Bool:=fitS s&&(s.out.all fitM&&s.sub.all fun w=>fitM (o6_ w))
theorem aaq_{st:ASt}{x:Ss}{v1 v2 v3 v4:Value}{l1 l2 l3 l4:List Nat}(h1:raE st (.own 1 x.fb.length x.cfb (encL x.fb)) v1 l1)(h2:raE st (.own 12 x.ins.length x.cins (encL x.ins)) v2 l2)(h3:raE st (.own 12 x.out.length x.cout (encL x.out)) v3 l3)(h4:raE st (.own 15 x.sub.length x.csub (encL x.sub)) v4 l4):rasE st ((b1_ x).map raOf) (ssCs x v1 v2 v3 v4) (l1++(l2++(l3++l4))):=by
 have h4:=rO_ (l2:=[]) h4 (rS_ (v:= .int .i64 x.num) rfl rfl i4_)
 rw[List.append_nil]at h4
 exact rS_ rfl rfl (rS_ rfl rfl (rO_ h1 (rS_ rfl rfl (rO_ h2 (rO_ h3 h4)))))
theorem alj_:c5_ Tryz.prog 8 (okA1 (Sc Ss) fun s=>okSd s.x) (g9_ (Sc Ss) fun s=> .rets [ansO (g4_ s.x),ansW (k5_ s.x) 1]):=by
 refine l0_ follows fun r hr hp=>⟨D2_,100,20,fun _=>0,fun _=>slSd,exSd (nrm r.x),D1_,fun β hβ=> ?_⟩
 obtain⟨s⟩:=r
 have hp:okSd s=true:=hp
 unfold okSd at hp
 rw[Bool.and_eq_true,Bool.and_eq_true]at hp
 obtain⟨p1,p2,p3⟩:=hp
 obtain⟨g1,g2,g3,g4,g5,g6,g7,g8,g9,g10,g11,g12⟩:=g6_ hr
 show lawE Tryz.prog D2_ 100 20 β (fun _=>0) (cnOf 4 fun _=>slSd) (exSd (nrm s)) 8 [ssV s 0] (mkS (ssR .look s)) (outC 4 fun r m=> ∃m2,a6_ m m2∧ansE (.rets [ansO (g4_ s),ansW (k5_ s) 1]) r (mkS m2))
 refine(apl_ s β _).mpr ?_
 try dsimp only
 have z0:a4_ U8 (Td.fr 1 s.fb.length s.cfb fun i=>encL s.fb i)=s.fb:=lT_ _ _
 have z1:a4_ Ms (Td.fr 12 s.ins.length s.cins fun i=>encL s.ins i)=s.ins:=lT_ _ _
 have z2:a4_ Ms (Td.fr 12 s.out.length s.cout fun i=>encL s.out i)=s.out:=lT_ _ _
 have z3:a4_ Wt (Td.fr 15 s.sub.length s.csub fun i=>encL s.sub i)=s.sub:=lT_ _ _
 simp only[Nat.zero_add,z0,z1,z2,z3]
 refine nd_ (by simp) (nd_ (by simp) (nd_ (by simp) (nd_ (by simp) (nd_ ((x0_ s).trans (by rw[show okA Ss s=true from hr];exact p1)) (a0_ (fun h=> ?_) (fun h=>⟨?_,fun h1=> ?_,fun h1=> ?_⟩))))))
 ·have hso:sdO s=true:=h
  have hlen:1≤s.out.length:=by
   have:=of_decide_eq_true h
   rw[Int.ofNat_eq_natCast]at this
   omega
  have hb:Nat.blt 0 s.out.length=true:=Nat.ble_eq_true_of_le hlen
  have hb0:Nat.beq s.out.length 0=false:=by rw[Bool.eq_false_iff];intro h;have:=Nat.eq_of_beq_eq_true h;omega
  have hmem:s.out.getD 0 Enc.dflt∈s.out:=by
   have:s.out.getD 0 Enc.dflt=s.out[0]:=by simp[List.getD,List.getElem?_eq_getElem hlen]
   rw[this];exact List.getElem_mem _
  have hokm:okA Ms (s.out.getD 0 Enc.dflt)=true:=List.all_eq_true.1 g7 _ hmem
  have hfm:fitM (s.out.getD 0 Enc.dflt)=true:=List.all_eq_true.1 p2 _ hmem
  have hd: ∀m:Ms,(Enc.dec (nthT [Td.sc (.int .i64 m.k),Td.sc (.int .i64 m.id),Td.sc (.int .i64 m.er),Td.sc (.int .i64 m.n),Td.sc (.int .i64 m.sq),Td.sc (.bool m.lo),Td.sc (.int .i64 m.ev),Td.sc (.int .i64 m.bd.k),Td.sc (.int .i64 m.bd.i),Td.sc (.float .f64 m.bd.f),Td.fr 1 m.ps.length m.cps fun i=>encL m.ps i,Td.fr 3 m.vs.length m.cvs fun i=>encL m.vs i]):Ms)=m:=fun m=>(dE_ m).1
  simp only[hd]
  rw[hb0]
  refine nd_ hb (nd_ (by rw[hb];rfl) (nd_ (Nat.ble_eq_true_of_le hlen) (nd_ (by simp) (nd_ (by simp) (nd_ ((x0_ (s.out.getD 0 Enc.dflt)).trans (by rw[hokm,hfm];rfl)) ?_)))))
  have hB:k5_ s=frL (s.out.getD 0 Enc.dflt):=by unfold k5_;rw[hso];rfl
  have hS:g4_ s=⟨s.on,s.se,s.fb,s.cfb,s.ba,s.ins,1,s.out.tail,0,s.sub,s.csub,s.num⟩:=by rw[t7_];unfold aag_;rw[hso];rfl
  rw[hB,hS]
  have hl:(s.out.tail).length=s.out.length-1:=List.length_tail
  refine⟨_,a6_.refl _,⟨_,[4,5,6,7,8],rfl,⟨[4,5,6,7],[8],rfl,⟨_,rfl,?_⟩,⟨[8],[],rfl,h8_ (frL (s.out.getD 0 Enc.dflt)) rfl (fun _=>rfl),rfl⟩⟩,by simp⟩⟩
  refine aaq_ (x:=⟨s.on,s.se,s.fb,s.cfb,s.ba,s.ins,1,s.out.tail,0,s.sub,s.csub,s.num⟩) (l1:=[4]) (l2:=[5]) (l3:=[6]) (l4:=[7]) (h8_ s.fb rfl fun _=>rfl) (h8_ s.ins rfl fun _=>rfl) ?_ (h8_ s.sub rfl fun _=>rfl)
  rw[show(Ss.out ⟨s.on,s.se,s.fb,s.cfb,s.ba,s.ins,1,s.out.tail,0,s.sub,s.csub,s.num⟩).length=s.out.length-1 from hl]
  exact E6_ (k:=6) (i0:=1) (lo:=0) (m:=s.out.length) (g:=encL s.out) rfl (fun _=>rfl) (Nat.zero_le _) (by omega) (fun i hi j hj=>X6_ s.out i j)
 ·exact alk_ (s:=nrm s) hβ (by show s.sub.length≤100000;unfold fitS at p1;simp only[Bool.and_eq_true]at p1;exact Nat.le_of_ble_eq_true p1.2) (by show s.sub.all (okA Wt)=true;exact g10) (fun w hw=>List.all_eq_true.1 p3 w hw)
 ·have hso:sdO s=false:=h
  have h1:sdI s<s.sub.length:=h1
  have hB:k5_ s=frL (o6_ (sdW s)):=by unfold k5_;rw[hso,decide_eq_true h1];rfl
  have hout:s.out=[]:=by
   have:=of_decide_eq_false h
   rw[Int.ofNat_eq_natCast]at this
   exact List.length_eq_zero_iff.1 (by omega)
  have hS:g4_ s=⟨s.on,s.se,s.fb,s.cfb,s.ba,s.ins,1,s.out,1,s.sub.set (sdI s) (nxW (sdW s)),s.csub,s.num⟩:=by rw[t7_];unfold aag_;rw[hso,hout];rfl
  rw[hB,hS]
  refine⟨_,a6_.refl _,⟨_,[4,5,6,7,8],rfl,⟨[4,5,6,7],[8],rfl,⟨_,rfl,?_⟩,⟨[8],[],rfl,h8_ (frL (o6_ (sdW s))) rfl (fun _=>rfl),rfl⟩⟩,by simp⟩⟩
  exact aaq_ (x:=⟨s.on,s.se,s.fb,s.cfb,s.ba,s.ins,1,s.out,1,s.sub.set (sdI s) (nxW (sdW s)),s.csub,s.num⟩) (l1:=[4]) (l2:=[5]) (l3:=[6]) (l4:=[7]) (h8_ s.fb rfl fun _=>rfl) (h8_ s.ins rfl fun _=>rfl) (h8_ s.out rfl fun _=>rfl) (h8_ (s.sub.set (sdI s) (nxW (sdW s))) rfl fun _=>rfl)
 ·have hso:sdO s=false:=h
  have h1:sdI s=s.sub.length:=h1
  have hB:k5_ s=[]:=by unfold k5_;rw[hso,decide_eq_false (by omega)];rfl
  have hout:s.out=[]:=by
   have:=of_decide_eq_false h
   rw[Int.ofNat_eq_natCast]at this
   exact List.length_eq_zero_iff.1 (by omega)
  have hS:g4_ s=⟨s.on,s.se,s.fb,s.cfb,s.ba,s.ins,1,s.out,1,s.sub,s.csub,s.num⟩:=by
   rw[t7_]
   unfold aag_
   rw[hso,hout,h1,List.set_eq_of_length_le (Nat.le_refl _)];rfl
  rw[hB,hS]
  refine⟨_,a6_.refl _,⟨_,[4,5,6,7],rfl,⟨[4,5,6,7],[],rfl,⟨_,rfl,?_⟩,⟨[],[],rfl,rN_ rfl rfl,rfl⟩⟩,by simp⟩⟩
  exact aaq_ (x:=⟨s.on,s.se,s.fb,s.cfb,s.ba,s.ins,1,s.out,1,s.sub,s.csub,s.num⟩) (l1:=[4]) (l2:=[5]) (l3:=[6]) (l4:=[7]) (h8_ s.fb rfl fun _=>rfl) (h8_ s.ins rfl fun _=>rfl) (h8_ s.out rfl fun _=>rfl) (h8_ s.sub rfl fun _=>rfl)
def D0_:Told:=D2_.tree 8 (okA1 (Sc Ss) fun s=>okSd s.x) (g9_ (Sc Ss) fun s=> .rets [ansO (g4_ s.x),ansW (k5_ s.x) 1])
theorem C9_:a8_ Tryz.prog D0_:=Told.tree_ok D1_ alj_
def lvsO(b:Nat):List Nat:=cond (Nat.beq b 0) [3,4,5] [3,4,6,7]
def lvO1:AX→List Nat:=fun x=>match x with
 | .exit _=>[3,4]
 |_=>[3,4,5]
def lvO2:AX→List Nat:=fun x=>match x with
 | .exit _=>[]
 | .ret=>[2]
 |_=>[3,4,6,7]
def FO1(n i:Int):AFr:=mkF 131 [(3,.pointer (some ⟨1,0,none⟩)),(4,.int .i64 n),(5,.int .i64 i)]
def FO1x(n:Int):AFr:=mkF 131 [(3,.pointer (some ⟨1,0,none⟩)),(4,.int .i64 n)]
def SO1(l:List U8)(s:Ss):ASt:=mkS ([some (rowO .still l),some (ssO s 2)]++ssR .mine s)
def FO2(n i:Int):AFr:=mkF 131 [(3,.pointer (some ⟨1,0,none⟩)),(4,.int .i64 n),(6,.map (some 6)),(7,.int .i64 i)]
def SO2(l:List U8)(s:Ss)(es:List (Value×Value)):ASt:=mkS ([some (rowO .still l),some (ssO s 2)]++ssR .mine s++[some (.omap (.i .i64) (.i .i64) es)])
def FOr:AFr:=mkF 131 [(2,.bool true)]
def exO(l:List U8)(s:Ss)(N:Int):Nat→Kt→Prop:=fun b K=>cond (Nat.beq b 0) (K (.exit 0) (FO1x N) (SO1 l s)) (K .ret FOr (mkS [some (rowO .still l)]))
def sD(s:Ss):Ss:=Enc.dec (nthT [Td.sc (Value.bool (Ss.on s)),Td.sc (Value.int IntKind.i64 (Ss.se s)),Td.fr 1 (List.length (Ss.fb s)) (Ss.cfb s) fun i=>encL (Ss.fb s) (0+i),Td.sc (Value.bool (Ss.ba s)),Td.fr 12 (List.length (Ss.ins s)) (Ss.cins s) fun i=>encL (Ss.ins s) (0+i),Td.fr 12 (List.length (Ss.out s)) (Ss.cout s) fun i=>encL (Ss.out s) (0+i),Td.fr 15 (List.length (Ss.sub s)) (Ss.csub s) fun i=>encL (Ss.sub s) (0+i),Td.sc (Value.int IntKind.i64 (Ss.num s))])
def xD(s:Ss):Ss:=g4_ (sD s)
def bD(s:Ss):List U8:=k5_ (sD s)
def lD(s:Ss):List U8:=a4_ U8 (Td.fr 1 (List.length (bD s)) 1 fun i=>encL (bD s) (0+i))
def tD(s:Ss):Option Ms:=e2_ (a4_ U8 (Td.fr 1 (List.length (tkL (lD s))) (tkC (lD s)) fun i=>encL (tkL (lD s)) (0+i)))
def mD(s:Ss):Ms:=Option.getD (tD s) zMs
def oD(s:Ss):Ms:=List.getD (Ss.out s) 0 Enc.dflt
def lQ(l:List U8)(c:Nat):List U8:=a4_ U8 (Td.fr 1 (List.length l) c fun i=>encL l (0+i))
theorem api_(l:List U8)(c:Nat)(s:Ss)(N:Int)(β:Bs):lawE Tryz.prog D0_ 100 20 β (fun _=>0) (cnOf 1 lvsO) (exO l s N) 3 [.slice (some ⟨0,0,some 0⟩) l.length c] (mkS [some (rowO .still l)]) adW_=
 (fun(z0 z1 z5 z6 z7:Nat) (z2:List Ms) (z3:List Wt)=>((fun(z4:AObj)=>(br (decide (Int.ofNat z1>(60:Int))) True (need (true&&Nat.ble (0+List.length l) z1) (need (okA1 (Rw U8) (fun r=>List.all (Rw.l r) (okA U8)) [Ta.cell (.fr 1 z1 c fun i=>encL l (0+i))]) (LoopJ Tryz.prog β (exO l s N) 0 (a5_ Tryz.prog 3 0) (mkF 131 [(3,.pointer (some ⟨1,0,none⟩)),(4,Value.int .i64 (Int.ofNat z0)),(5,Value.int .i64 (0:Int))]) (mkS [some z4,some (.cells [.bool (decide (Prod.fst (onQ (lQ l c))>(0:Int))),Value.int .i64 (Prod.fst (seP (lQ l c))),.slice (some ⟨2,0,some 0⟩) 0 1,.bool false,.slice (some ⟨3,0,some 0⟩) z2.length 1,.slice (some ⟨4,0,some 0⟩) z0 1,.slice (some ⟨5,0,some 0⟩) z3.length 1,Value.int .i64 (0:Int)] true 0),some (.row .mine 1 0 0 (encL ([]:List U8))),some (.row .mine 12 0 z2.length (encL z2)),some (.row .mine 12 0 z0 (encL (Prod.fst (ouP (lQ l c))))),some (.row .mine 15 0 z3.length (encL z3))])∧LoopJ Tryz.prog β (exO l s N) 2 (a5_ Tryz.prog 3 2) (mkF 131 [(3,.pointer (some ⟨1,0,none⟩)),(4,Value.int .i64 N),(6,.map (some 6)),(7,Value.int .i64 (0:Int))]) (mkS [some z4,some (.cells [.bool (Ss.on s),Value.int .i64 (Ss.se s),.slice (some ⟨2,0,some 0⟩) (List.length (Ss.fb s)) (Ss.cfb s),.bool (Ss.ba s),.slice (some ⟨3,0,some 0⟩) z5 (Ss.cins s),.slice (some ⟨4,0,some 0⟩) z6 (Ss.cout s),.slice (some ⟨5,0,some 0⟩) z7 (Ss.csub s),Value.int .i64 (Ss.num s)] true 0),some (.row .mine 1 0 (List.length (Ss.fb s)) (encL (Ss.fb s))),some (.row .mine 12 0 z5 (encL (Ss.ins s))),some (.row .mine 12 0 z6 (encL (Ss.out s))),some (.row .mine 15 0 z7 (encL (Ss.sub s))),some (AObj.map [] 0)])∧True))))) (.row .still 1 0 z1 (encL l)))) (List.length (Prod.fst (ouP (lQ l c)))) l.length (List.length (Ss.ins s)) (List.length (Ss.out s)) (List.length (Ss.sub s)) (Prod.fst (inP (lQ l c))) (Prod.fst (suP (lQ l c))):=by kernel_rfl
theorem ahl_(l:List U8)(s:Ss)(n i:Int)(β:Bs)(N:Kt):c0_ Tryz.prog D0_ 100 20 β (fun _=>0) (cnOf 1 lvsO) (fun _ _=>False) 3 0 1 lvO1 (FO1 n i) (SO1 l s) N=
 (fun(z1 z2 z3 z4:Nat)=>((fun(z0:ASt)=>(br (decide (i<Int.ofNat z1)) (need (decide ((0:Int)≤i)) (need (Nat.blt (Int.toNat i) z1) (need (Nat.ble 0 z2&&Nat.blt z2 z1) (N .normal (mkF 131 [(3,.pointer (some ⟨1,0,none⟩)),(4,Value.int .i64 (IntKind.wrap .i64 (n+Int.ofNat (List.length (Wt.qu (List.getD (Ss.sub s) z2 Enc.dflt)))))),(5,Value.int .i64 (IntKind.wrap .i64 (i+(1:Int))))]) z0)))) (N (.exit 0) (mkF 131 [(3,.pointer (some ⟨1,0,none⟩)),(4,Value.int .i64 n)]) z0))) (mkS [some (.row .still 1 0 l.length (encL l)),some (.cells [.bool (Ss.on s),Value.int .i64 (Ss.se s),.slice (some ⟨2,0,some 0⟩) (List.length (Ss.fb s)) (Ss.cfb s),.bool (Ss.ba s),.slice (some ⟨3,0,some 0⟩) z3 (Ss.cins s),.slice (some ⟨4,0,some 0⟩) z4 (Ss.cout s),.slice (some ⟨5,0,some 0⟩) z1 (Ss.csub s),Value.int .i64 (Ss.num s)] true 0),some (.row .mine 1 0 (List.length (Ss.fb s)) (encL (Ss.fb s))),some (.row .mine 12 0 z3 (encL (Ss.ins s))),some (.row .mine 12 0 z4 (encL (Ss.out s))),some (.row .mine 15 0 z1 (encL (Ss.sub s)))]))) (List.length (Ss.sub s)) (0+Int.toNat i) (List.length (Ss.ins s)) (List.length (Ss.out s)):=by kernel_rfl
theorem ahk_(l:List U8)(s:Ss)(es:List (Value×Value))(n i:Int)(β:Bs)(N:Kt):c0_ Tryz.prog D0_ 100 20 β (fun _=>0) (cnOf 1 lvsO) (fun _ _=>False) 3 2 1 lvO2 (FO2 n i) (SO2 l s es) N=
 (fun(z5:AObj) (z6:AFr) (z7 z11 z16 z17 z23 z24 z25 z30 z31 z32 z34:Nat) (z15 z29 z35 z36:Value) (z26 z27:List Ms) (z28:List Wt)=>((fun(z1 z2:List Td) (z8 z9 z10:Nat) (z12 z13 z14 z19:Bool) (z22:AObj) (z33:ASt)=>((fun(z0:Prop) (z3:List Td) (z4 z18 z20 z21:AObj)=>(br (decide (i≤n)) (need z14 (need z12 (need z19 (need z13 (need (okA1 (Sc Ss) (fun s=>okSd (Sc.x s)) [Ta.agg [.sc (.bool (Ss.on s)),.sc z36,.fr 1 z25 (Ss.cfb s) fun i=>encL (Ss.fb s) (0+i),.sc (.bool (Ss.ba s)),.fr 12 z23 (Ss.cins s) fun i=>encL (Ss.ins s) (0+i),.fr 12 z7 (Ss.cout s) fun i=>encL (Ss.out s) (0+i),.fr 15 z24 (Ss.csub s) fun i=>encL (Ss.sub s) (0+i),.sc z35]]) (br (i==n) (br (Int.ofNat z16==(0:Int)) (need (true&&Nat.ble (0+List.length (Ss.fb (xD s))) z11) (need (true&&Nat.ble (0+List.length z26) z9) (need (true&&Nat.ble (0+List.length z27) z8) (need (true&&Nat.ble (0+List.length z28) z10) (need z14 (need z12 (need z19 (need z13 (need (okA2 (Sc Ss) (Sc Ss) (fun x x_1=>true) [Ta.agg z3,Ta.agg [.sc (.bool (Ss.on s)),.sc z36,.fr 1 z25 (Ss.cfb s) fun i=>encL (Ss.fb s) (0+i),.sc (.bool (Ss.ba s)),.fr 12 z23 (Ss.cins s) fun i=>encL (Ss.ins s) (0+i),.fr 12 z7 (Ss.cout s) fun i=>encL (Ss.out s) (0+i),.fr 15 z24 (Ss.csub s) fun i=>encL (Ss.sub s) (0+i),.sc z35]]) (N .ret (mkF 131 [(2,.bool (i2_ (Enc.dec (nthT z3)) (sD s)))]) z33)))))))))) z0) (need (true&&Nat.ble (0+List.length (bD s)) z16) (need (ok1 U8 (fun l x=>List.all l (okA U8)) [Ta.cell (.fr 1 z16 1 fun i=>encL (bD s) (0+i))]) (need (true&&Nat.ble (0+List.length (tkL (lD s))) z34) (need (okA1 (Rw U8) (fun r=>List.all (Rw.l r) (okA U8)) [Ta.cell (.fr 1 z34 (tkC (lD s)) fun i=>encL (tkL (lD s)) (0+i))]) (br (Int.ofNat (tkE (lD s)) !=(0:Int)) z0 (br (Int.ofNat (tkN (lD s)) !=Int.ofNat z16) z0 (br (!Option.isSome (tD s)) z0 (br (decide (Int.ofNat z7>(0:Int))) (need (Nat.blt 0 z7) (need (true&&Nat.blt 0 z7) (need (true&&Nat.ble (0+List.length (Ms.ps (mD s))) z30) (need (true&&Nat.ble (0+List.length (Ms.vs (mD s))) z17) (need (true&&Nat.ble (0+List.length (Ms.ps (oD s))) z31) (need (true&&Nat.ble (0+List.length (Ms.vs (oD s))) z32) (need (okS2 Ms (fun x x_1=>true) [Ta.agg z1,Ta.agg z2]) (br (!c2_ (Enc.dec (nthT z1)) (Enc.dec (nthT z2))) z0 (br (Int.ofNat z8 !=IntKind.wrap .i64 (Int.ofNat z7-(1:Int))) z0 (N .normal z6 (mkS [some z5,some z4,some z22,some z20,some z21,some z18,some (AObj.omap (Kk.i IntKind.i64) (Vk.i IntKind.i64) es)]))))))))))) (br (Ms.k (mD s) !=(7:Int)) z0 (br (decide (Ms.sq (mD s)≤intV (getK z15 (Value.int .i64 (0:Int)) es))) z0 (br (Int.ofNat z17 !=(1:Int)) z0 (N .normal z6 (mkS [some z5,some z4,some z22,some z20,some z21,some z18,some (AObj.omap (Kk.i IntKind.i64) (Vk.i IntKind.i64) (putK z15 z29 es))]))))))))))))))))))) (N (.exit 2) (mkF 131 []) z33))) (N .ret (mkF 131 [(2,.bool false)]) z33) [.sc (.bool (Ss.on (xD s))),.sc (Value.int .i64 (Ss.se (xD s))),.fr 1 z11 (Ss.cfb (xD s)) fun i=>encL (Ss.fb (xD s)) (0+i),.sc (.bool (Ss.ba (xD s))),.fr 12 z9 (Ss.cins (xD s)) fun i=>encL z26 (0+i),.fr 12 z8 (Ss.cout (xD s)) fun i=>encL z27 (0+i),.fr 15 z10 (Ss.csub (xD s)) fun i=>encL z28 (0+i),.sc (Value.int .i64 (Ss.num (xD s)))] (.cells [.bool (Ss.on (xD s)),Value.int .i64 (Ss.se (xD s)),.slice (some ⟨2,0,some 0⟩) z11 (Ss.cfb (xD s)),.bool (Ss.ba (xD s)),.slice (some ⟨3,0,some 0⟩) z9 (Ss.cins (xD s)),.slice (some ⟨4,0,some 0⟩) z8 (Ss.cout (xD s)),.slice (some ⟨5,0,some 0⟩) z10 (Ss.csub (xD s)),Value.int .i64 (Ss.num (xD s))] true 0) (.row .mine 15 0 z10 (encL z28)) (.row .mine 12 0 z9 (encL z26)) (.row .mine 12 0 z8 (encL z27)))) [.sc (Value.int .i64 (Ms.k (mD s))),.sc (Value.int .i64 (Ms.id (mD s))),.sc (Value.int .i64 (Ms.er (mD s))),.sc z15,.sc z29,.sc (.bool (Ms.lo (mD s))),.sc (Value.int .i64 (Ms.ev (mD s))),.sc (Value.int .i64 (Vl.k (Ms.bd (mD s)))),.sc
 (Value.int .i64 (Vl.i (Ms.bd (mD s)))),.sc (Value.float .f64 (Vl.f (Ms.bd (mD s)))),.fr 1 z30 (Ms.cps (mD s)) fun i=>encL (Ms.ps (mD s)) (0+i),.fr 3 z17 (Ms.cvs (mD s)) fun i=>encL (Ms.vs (mD s)) (0+i)] [.sc (Value.int .i64 (Ms.k (oD s))),.sc (Value.int .i64 (Ms.id (oD s))),.sc (Value.int .i64 (Ms.er (oD s))),.sc (Value.int .i64 (Ms.n (oD s))),.sc (Value.int .i64 (Ms.sq (oD s))),.sc (.bool (Ms.lo (oD s))),.sc (Value.int .i64 (Ms.ev (oD s))),.sc (Value.int .i64 (Vl.k (Ms.bd (oD s)))),.sc (Value.int .i64 (Vl.i (Ms.bd (oD s)))),.sc (Value.float .f64 (Vl.f (Ms.bd (oD s)))),.fr 1 z31 (Ms.cps (oD s)) fun i=>encL (Ms.ps (oD s)) (0+i),.fr 3 z32 (Ms.cvs (oD s)) fun i=>encL (Ms.vs (oD s)) (0+i)] z27.length z26.length z28.length (true&&Nat.ble (0+List.length (Ss.ins s)) z23) (true&&Nat.ble (0+List.length (Ss.sub s)) z24) (true&&Nat.ble (0+List.length (Ss.fb s)) z25) (true&&Nat.ble (0+List.length (Ss.out s)) z7) (.row .mine 1 0 z11 (encL (Ss.fb (xD s)))) (mkS [some z5]))) (.row .still 1 0 l.length (encL l)) (mkF 131 [(3,.pointer (some ⟨1,0,none⟩)),(4,Value.int .i64 n),(6,.map (some 6)),(7,Value.int .i64 (IntKind.wrap .i64 (i+(1:Int))))]) (List.length (Ss.out s)) (List.length (Ss.fb (xD s))) (List.length (bD s)) (List.length (Ms.vs (mD s))) (List.length (Ss.ins s)) (List.length (Ss.sub s)) (List.length (Ss.fb s)) (List.length (Ms.ps (mD s))) (List.length (Ms.ps (oD s))) (List.length (Ms.vs (oD s))) (List.length (tkL (lD s))) (Value.int .i64 (Ms.n (mD s))) (Value.int .i64 (Ms.sq (mD s))) (Value.int .i64 (Ss.num s)) (Value.int .i64 (Ss.se s)) (Ss.ins (xD s)) (Ss.out (xD s)) (Ss.sub (xD s)):=by kernel_rfl
end Go.Proofs.YtachglcffimmeaaGreat.Ev
end
section
namespace Go.Proofs.YtachglcffimmeaaGreat.Ev
open Go Go.Proofs Go.RowKit
end Go.Proofs.YtachglcffimmeaaGreat.Ev
end
section
namespace Go.Proofs.YtachglcffimmeaaGreat.Ev
open Go Go.Proofs Go.RowKit
theorem aha_{α:Type}[Enc α](l:List α)(p:α→Bool):((List.range l.length).all fun i=>p (l.getD i Enc.dflt))=l.all p:=by
 rw[Bool.eq_iff_iff,List.all_eq_true,List.all_eq_true]
 constructor
 ·intro h x hx
  obtain⟨i,hi,rfl⟩:=List.getElem_of_mem hx
  have:=h i (List.mem_range.2 hi)
  simpa [List.getD,hi]using this
 ·intro h i hi
  have hi:=List.mem_range.1 hi
  have:=h l[i] (List.getElem_mem hi)
  simpa [List.getD,hi]using this
theorem agX_{α:Type}[Enc α](l:List α)(p q:α→Bool)(h: ∀x∈l,q x= !p x):decide (fstN (fun i=>q (l.getD i Enc.dflt)) l.length 0≥0)= !(l.all p):=by
 rw[P4_,←aha_ l p]
 have:((List.range l.length).any fun j=>q (l.getD (0+j) Enc.dflt))=((List.range l.length).any fun j=> !(p (l.getD j Enc.dflt))):=by
  rw[Bool.eq_iff_iff,List.any_eq_true,List.any_eq_true]
  constructor
  ·rintro⟨i,hi,h1⟩
   have hi':=List.mem_range.1 hi
   refine⟨i,hi,?_⟩
   rw[Nat.zero_add,h _ (by simp[List.getD,hi'])]at h1
   exact h1
  ·rintro⟨i,hi,h1⟩
   have hi':=List.mem_range.1 hi
   refine⟨i,hi,?_⟩
   rw[Nat.zero_add,h _ (by simp[List.getD,hi'])]
   exact h1
 rw[this,List.not_all_eq_any_not]
theorem amZ_(m:Ms):anyP m= !pOkB m:=by
 refine agX_ m.ps _ _ fun s _=> ?_
 unfold badP
 cases decide (Int.ofNat s.s.size<1)<;>cases decide (Int.ofNat s.s.size>20)<;>rfl
theorem amY_(m:Ms)(h: ∀v∈m.vs,i0_ v=mvB v.k v.i v.f):anyV m= !vOkB m:=by
 refine agX_ m.vs _ _ fun v hv=> ?_
 unfold badV
 rw[h v hv]
theorem ord0:(Ieee.Format.order (FloatKind.format .f64) 0 0==some Ordering.eq)=true:=by kernel_rfl
theorem ordI:(!Ieee.Format.order (FloatKind.format .f64) (ariR .f64 .quo 4607182418800017408 0) 0==some Ordering.gt)=false:=by kernel_rfl
theorem anj_(x:Int):IntKind.wrap .i64 (IntKind.wrap .i16 x)=IntKind.wrap .i16 x:=by
 unfold IntKind.wrap
 simp[IntKind.signed,IntKind.bits]
 omega
theorem ani_(x:Int):IntKind.wrap .i64 (IntKind.wrap .i32 x)=IntKind.wrap .i32 x:=by
 unfold IntKind.wrap
 simp[IntKind.signed,IntKind.bits]
 omega
theorem W2_{v:Vl}(hf:v.k≠5→v.f=0):i0_ v=mvB v.k v.i v.f:=by
 obtain⟨k,i,f⟩:=v
 have hf:k≠5→f=0:=hf
 unfold i0_ mvB
 cases h5:k==5 with
 |true=>rfl
 |false=>
  have h5':k≠5:=by intro e;rw[e]at h5;cases h5
  have:=hf h5'
  subst this
  have hb:(Int.ofNat (bitsN 0)==0)=true:=rfl
  simp only[ord0,ordI,hb,cond_true,cond_false,Bool.and_true]
  by_cases h1:k=1
  ·subst h1
   by_cases hi:i=0
   ·subst hi;rfl
   ·have e:(i==0)=false:=by simpa using hi
    show cond (i==0) true (i==1)=(true&&((if i=0 then(0:Int)else 1)==i))
    rw[e,if_neg hi,Bool.true_and,cond_false,Bool.eq_iff_iff,beq_iff_eq,beq_iff_eq]
    exact⟨fun h=>h.symm,fun h=>h.symm⟩
  by_cases h2:k=2
  ·subst h2
   show(i==IntKind.wrap .i64 (IntKind.wrap .i16 i))=(true&&(IntKind.wrap .i16 i==i))
   rw[anj_,Bool.true_and,Bool.eq_iff_iff,beq_iff_eq,beq_iff_eq]
   exact⟨fun h=>h.symm,fun h=>h.symm⟩
  by_cases h3:k=3
  ·subst h3
   show(i==IntKind.wrap .i64 (IntKind.wrap .i32 i))=(true&&(IntKind.wrap .i32 i==i))
   rw[ani_,Bool.true_and,Bool.eq_iff_iff,beq_iff_eq,beq_iff_eq]
   exact⟨fun h=>h.symm,fun h=>h.symm⟩
  by_cases h4:k=4
  ·subst h4
   show true=(true&&(i==i))
   rw[beq_self_eq_true];rfl
  have e1:(k==1)=false:=by simpa using h1
  have e2:(k==2)=false:=by simpa using h2
  have e3:(k==3)=false:=by simpa using h3
  have e4:(k==4)=false:=by simpa using h4
  have e6:(decide (k≥1)&&decide (k≤5))=false:=by
   rw[Bool.and_eq_false_iff]
   by_cases h:k≥1
   ·exact .inr (decide_eq_false (by omega))
   ·exact .inl (decide_eq_false h)
  simp only[e1,e2,e3,e4,e6,cond_false,Bool.false_and]
theorem amP_{v:Vl}(hf:v.k≠5→v.f=0):bdOk v=(zQ v||i0_ v):=by
 unfold bdOk zQ
 rw[W2_ hf]
 cases h:v.k==0 with
 |false=>rfl
 |true=>
  have hk:=eq_of_beq h
  have hm:mvB v.k v.i v.f=false:=by
   unfold mvB
   rw[hk];rfl
  rw[hm,Bool.or_false]
  cases hi:v.i==0 with
  |true=>
   have hi:=eq_of_beq hi
   rw[hi]
   show(true&& !(Int.ofNat (bitsN v.f) !=0))=(Int.ofNat (bitsN v.f)==0)
   rw[Bool.true_and]
   unfold bne
   cases Int.ofNat (bitsN v.f)==0<;>rfl
  |false=>
   have:(v.i !=0)=true:=by simp[bne,hi]
   rw[this];rfl
theorem zN(f:Nat):h6_ 0 f=(Int.ofNat (bitsN f)==0):=by
 have hb:bitsN 0=0:=rfl
 unfold h6_
 rw[hb,Bool.eq_iff_iff,decide_eq_true_eq,beq_iff_eq]
 constructor
 ·intro h;rw[←h];rfl
 ·intro h
  simp only[Int.ofNat_eq_natCast]at h
  omega
theorem S7_{m:Ms}(hv: ∀v∈m.vs,v.k≠5→v.f=0)(hb:m.bd.k≠5→m.bd.f=0):tlQ m=(insB m.id&&insB m.n&&insB m.sq&&(decide (m.ev≥0)&&decide (m.ev≤1125899906842624))&&(decide (m.er≥0)&&decide (m.er≤13))&& !decide (Int.ofNat m.ps.length>5)&&pOkB m&& !decide (Int.ofNat m.vs.length>5)&&vOkB m&&bdOk m.bd):=by
 have hP:=amZ_ m
 have hV:=amY_ m fun v h=>W2_ (hv v h)
 have hB:=amP_ hb
 unfold tlQ insB
 rw[hP,hV,hB]
 cases decide (m.id≥0)<;>cases decide (m.id≤65535)<;>try rfl
 cases decide (m.n≥0)<;>cases decide (m.n≤65535)<;>try rfl
 cases decide (m.sq≥0)<;>cases decide (m.sq≤65535)<;>try rfl
 cases decide (m.ev≥0)<;>cases decide (m.ev≤1125899906842624)<;>try rfl
 cases decide (m.er≥0)<;>cases decide (m.er≤13)<;>try rfl
 cases decide (Int.ofNat m.ps.length>5)<;>cases pOkB m<;>try rfl
 cases decide (Int.ofNat m.vs.length>5)<;>cases vOkB m<;>try rfl
theorem afl_{l:List U8}: ∀(r:Nat) (n:Int) (ps:List St),(paL l r n ps).1.length=ps.length+r
 |0,n,ps=>rfl
 |r+1,n,ps=>by
  show(paL l r _ _).1.length=_
  rw[afl_ r];simp;omega
theorem adC_{l:List U8}: ∀(r:Nat) (n:Int) (ps:List St) (vs:List Vl),(wrL l r n ps vs).1.length=ps.length+r∧(wrL l r n ps vs).2.1.length=vs.length+r
 |0,n,ps,vs=>⟨rfl,rfl⟩
 |r+1,n,ps,vs=>by
  obtain⟨h1,h2⟩:=adC_ (l:=l) r (wrV l n).2 (ps++[C4_.getD (numF l n 6).1.toNat Enc.dflt]) (vs++[(wrV l n).1])
  refine⟨?_,?_⟩
  ·show(wrL l r _ _ _).1.length=_
   rw[h1];simp;omega
  ·show(wrL l r _ _ _).2.1.length=_
   rw[h2];simp;omega
theorem ajb_{l:List U8}{n:Int}(id:Int)(hp:PkOk l n):(askM l id n).1.ps.length≤3∧(askM l id n).1.vs.length≤3:=by
 have h5:=(nF_ (m:=5) hp (by omega)).2.2
 unfold askM
 cases((numF l n 5).1==0)with
 |true=>
  have:=(nF_ (m:=3) h5 (by omega)).2.1
  refine⟨?_,by show 0≤3;omega⟩
  show(paL l _ _ _).1.length≤3
  rw[afl_];simp;omega
 |false=>
  cases((numF l n 5).1==1)with
  |true=>
   have:=(nF_ (m:=2) h5 (by omega)).2.1
   obtain⟨h1,h2⟩:=adC_ (l:=l) ((numF l (numF l n 5).2 2).1+1).toNat (numF l (numF l n 5).2 2).2 [] []
   refine⟨?_,?_⟩
   ·show(wrL l _ _ _ _).1.length≤3
    rw[h1];simp;omega
   ·show(wrL l _ _ _ _).2.1.length≤3
    rw[h2];simp;omega
  |false=>
   cases((numF l n 5).1==2)with
   |true=>exact⟨by show 0≤3;omega,by show 0≤3;omega⟩
   |false=>
    cases((numF l n 5).1==3)with
    |true=>exact⟨by show 1≤3;omega,by show 0≤3;omega⟩
    |false=>exact⟨by show 0≤3;omega,by show 0≤3;omega⟩
theorem agZ_(l:List St):l.all (okA St)=true:=List.all_eq_true.2 fun _ _=>rfl
theorem agY_(l:List Vl):l.all (okA Vl)=true:=List.all_eq_true.2 fun _ _=>rfl
theorem akl_(l:List Im):l.all (okA Im)=true:=List.all_eq_true.2 fun _ _=>rfl
theorem amJ_{m:Ms}(h1:m.ps.length≤1000000)(h2:m.vs.length≤1000000):okA Ms (capM m)=true:=W1_ (agZ_ _) h1 (Nat.le_refl _) (agY_ _) h2 (Nat.le_refl _)
theorem afO_{l:List U8}: ∀(r:Nat) (n:Int) (x:List Ms),PkOk l n→x.all (okA Ms)=true→(inL l r n x).1.all (okA Ms)=true∧(inL l r n x).1.length=x.length+r
 |0,n,x,h,hx=>⟨hx,rfl⟩
 |r+1,n,x,h,hx=>by
  obtain⟨a1,a2⟩:=ajb_ ((r+1:Nat):Int) h
  obtain⟨h1,h2⟩:=afO_ r (askM l ((r+1:Nat):Int) n).2 (x++[capM (askM l ((r+1:Nat):Int) n).1]) (aaY_ _ h) (by rw[List.all_append,hx,List.all_cons,amJ_ (by omega) (by omega)];rfl)
  exact⟨h1,by show(inL l r _ _).1.length=_;rw[h2];simp;omega⟩
theorem aav_{l:List U8}: ∀(r:Nat) (n:Int) (x:List Ms),PkOk l n→x.all (okA Ms)=true→(ouL l r n x).1.all (okA Ms)=true∧(ouL l r n x).1.length=x.length+r
 |0,n,x,h,hx=>⟨hx,rfl⟩
 |r+1,n,x,h,hx=>by
  have ha:okA Ms (anM l ((r+1:Nat):Int) n)=true:=W1_ (agZ_ _) (by show 0≤1000000;omega) (Nat.le_refl _) (agY_ _) (by show 1≤1000000;omega) (by show 0≤1;omega)
  obtain⟨h1,h2⟩:=aav_ r (anV l n).2 (x++[anM l ((r+1:Nat):Int) n]) (acv_ h) (by rw[List.all_append,hx,List.all_cons,ha];rfl)
  exact⟨h1,by show(ouL l r _ _).1.length=_;rw[h2];simp;omega⟩
theorem adE_{l:List U8}: ∀(k:Nat) (n:Int) (w:Wt),w.qu.length≤1→w.cqu≤1→(wkL l k n w).1.qu.length≤1∧(wkL l k n w).1.cqu≤1
 |0,n,w,h1,h2=>⟨h1,h2⟩
 |k+1,n,w,h1,h2=>by
  refine adE_ k _ _ ?_ ?_
  ·cases w.ha with
   |true=>exact h1
   |false=>exact Nat.le_refl _
  ·cases w.ha with
   |true=>exact h2
   |false=>exact Nat.zero_le _
theorem aae_{l:List U8}: ∀(r:Nat) (n:Int) (x:List Wt),PkOk l n→x.all (okA Wt)=true→(suL l r n x).1.all (okA Wt)=true∧(suL l r n x).1.length=x.length+r
 |0,n,x,h,hx=>⟨hx,rfl⟩
 |r+1,n,x,h,hx=>by
  obtain⟨a1,a2⟩:=adE_ (l:=l) (nuK l n).1.toNat (nuK l n).2 (nwW l ((r+1:Nat):Int) n) (by show 0≤1;omega) (by show 1≤1;omega)
  have ha:okA Wt (suC l ((r+1:Nat):Int) n).1=true:=afq_ (akl_ _) (by show(wkL l _ _ _).1.qu.length≤_;omega) a2
  obtain⟨h1,h2⟩:=aae_ r (suC l ((r+1:Nat):Int) n).2 (x++[(suC l ((r+1:Nat):Int) n).1]) (ajJ_ _ h) (by rw[List.all_append,hx,List.all_cons,ha];rfl)
  exact⟨h1,by show(suL l r _ _).1.length=_;rw[h2];simp;omega⟩
structure GdS (s:Ss):Prop where
 ok:okA Ss s=true
 fb:s.fb.length≤205
 ins:s.ins.length≤1000
 out:s.out.length≤1000
 sub:s.sub.length≤1000
theorem GdS.fitS{s:Ss}(h:GdS s):fitS s=true:=by
 unfold Ev.fitS
 rw[Nat.ble_eq_true_of_le (show s.ins.length≤100000 by have:=h.ins;omega),Nat.ble_eq_true_of_le (show s.out.length≤100000 by have:=h.out;omega),Nat.ble_eq_true_of_le (show s.sub.length≤100000 by have:=h.sub;omega)];rfl
theorem ama_{l:List U8}(h1:l.all (okA U8)=true)(h2:l.length≤1000000):GdS (n1_ l):=by
 have hp0:PkOk l 0:=⟨h1,h2,Int.le_refl _⟩
 obtain⟨s0,s1,p1⟩:=nF_ (m:=9) hp0 (by omega)
 obtain⟨i0,i1,p2⟩:=nF_ (m:=4) p1 (by omega)
 obtain⟨a1,a2⟩:=afO_ (i0P l).1.toNat (i0P l).2 [] p2 rfl
 have p3:PkOk l (inP l).2:=abV_ _ _ _ p2
 obtain⟨o0,o1,p4⟩:=nF_ (m:=3) p3 (by omega)
 obtain⟨b1,b2⟩:=aav_ (o0P l).1.toNat (o0P l).2 [] p4 rfl
 have p5:PkOk l (ouP l).2:=abJ_ _ _ _ p4
 obtain⟨u0,u1,p6⟩:=nF_ (m:=4) p5 (by omega)
 obtain⟨c1,c2⟩:=aae_ (s0P l).1.toNat (s0P l).2 [] p6 rfl
 have a2:(inP l).1.length=0+(i0P l).1.toNat:=a2
 have b2:(ouP l).1.length=0+(o0P l).1.toNat:=b2
 have c2:(suP l).1.length=0+(s0P l).1.toNat:=c2
 have i1:(i0P l).1<4:=i1
 have o1:(o0P l).1<3:=o1
 have u1:(s0P l).1<4:=u1
 refine⟨W0_ rfl (by show 0≤1000000;omega) (by show 1≤1;omega) a1 (by show(inP l).1.length≤_;omega) (Nat.le_refl _) b1 (by show(ouP l).1.length≤_;omega) (Nat.le_refl _) c1 (by show(suP l).1.length≤_;omega) (Nat.le_refl _),by show 0≤205;omega,by show(inP l).1.length≤_;omega,by show(ouP l).1.length≤_;omega,by show(suP l).1.length≤_;omega⟩
theorem l3_(a:Nat):h6_ a a=true:=decide_eq_true rfl
theorem T5_(v:Vl):h3_ v v=true:=by simp[h3_,l3_]
theorem k0_(l:List Vl):d5_ l l=true:=by simp[d5_,T5_]
theorem g5_(l:List St):o0_ l l=true:=by simp[o0_]
theorem acI_(m:Ms):c2_ m m=true:=by
 simp[c2_,l3_,k0_,g5_]
theorem aak_(l:List Ms):l4_ l l=true:=by simp[l4_,acI_]
theorem aal_(l:List Im):E0_ l l=true:=by simp[E0_,N1_,l3_]
theorem acH_(w:Wt):w4_ w w=true:=by simp[w4_,l3_,aal_]
theorem aaj_(l:List Wt):D9_ l l=true:=by simp[D9_,acH_]
theorem aeG_{a b:Ss}(h:cz a=cz b):i2_ a b=true:=by
 obtain⟨a1,a2,a3,a4,a5,a6,a7,a8,a9,a10,a11,a12⟩:=a
 obtain⟨b1,b2,b3,b4,b5,b6,b7,b8,b9,b10,b11,b12⟩:=b
 simp only[cz,Ss.mk.injEq]at h
 obtain⟨rfl,rfl,rfl,_,rfl,rfl,_,rfl,_,rfl,_,rfl⟩:=h
 simp[i2_,aak_,aaj_]
theorem b0ne(x:Int):((0:Int) !=x)= !(x==0):=by
 unfold bne
 congr 1
 rw[Bool.eq_iff_iff,beq_iff_eq,beq_iff_eq]
 exact⟨fun h=>h.symm,fun h=>h.symm⟩
theorem b0eq(x:Int):((0:Int)==x)=(x==0):=by
 rw[Bool.eq_iff_iff,beq_iff_eq,beq_iff_eq]
 exact⟨fun h=>h.symm,fun h=>h.symm⟩
theorem adp_(x:Int):(x !=x)=false:=by simp
theorem vs0(l:List Vl):d5_ [] l=(Int.ofNat l.length==0):=by
 unfold d5_
 rw[Bool.eq_iff_iff]
 cases l<;>simp
 omega
theorem ps0(l:List St):(Int.ofNat ([]:List St).length !=Int.ofNat l.length)= !(Int.ofNat l.length==0):=by
 show((0:Int) !=_)=_
 exact b0ne _
theorem bd0(v:Vl)(X:Bool):cond ((0:Int)==v.k) (cond ((0:Int)==v.i) (cond (!(h6_ 0 v.f)) false X) false) false=(zQ v&&X):=by
 unfold zQ
 rw[zN,b0eq,b0eq]
 cases v.k==0<;>cases v.i==0<;>cases(Int.ofNat (bitsN v.f)==0)<;>rfl
theorem sm1{m:Ms}(h:m.k=1):c2_ (e8_ m) m=(m.n==0&&m.sq==0&&m.er==0&& !m.lo&&m.ev==0&&zQ m.bd&&Int.ofNat m.vs.length==0):=by
 have hb:e8_ m=⟨m.k,m.id,0,0,0,false,0,zV,m.ps,m.cps,[],1⟩:=by unfold e8_;rw[h];rfl
 rw[hb]
 unfold c2_
 simp only[adp_,cond_false,b0ne,vs0,g5_]
 show(cond (!(m.er==0)) false (cond (!(m.n==0)) false (cond (!(m.sq==0)) false (cond (!(false==m.lo)) false (cond (!(m.ev==0)) false (cond ((0:Int)==m.bd.k) (cond ((0:Int)==m.bd.i) (cond (!(h6_ 0 m.bd.f)) false (cond (!(Int.ofNat m.vs.length==0)) false true)) false) false)))))=_)
 rw[bd0]
 cases m.er==0<;>cases m.n==0<;>cases m.sq==0<;>cases m.lo<;>cases m.ev==0<;>cases zQ m.bd<;>cases(Int.ofNat m.vs.length==0)<;>rfl
theorem sm2{m:Ms}(h:m.k=2):c2_ (e8_ m) m=(m.n==0&&m.sq==0&&m.er==0&& !m.lo&&m.ev==0&&zQ m.bd):=by
 have hb:e8_ m=⟨m.k,m.id,0,0,0,false,0,zV,m.ps,m.cps,m.vs,m.cvs⟩:=by unfold e8_;rw[h];rfl
 rw[hb]
 unfold c2_
 simp only[adp_,cond_false,b0ne,k0_,g5_]
 show(cond (!(m.er==0)) false (cond (!(m.n==0)) false (cond (!(m.sq==0)) false (cond (!(false==m.lo)) false (cond (!(m.ev==0)) false (cond ((0:Int)==m.bd.k) (cond ((0:Int)==m.bd.i) (cond (!(h6_ 0 m.bd.f)) false true) false) false)))))=_)
 rw[bd0]
 cases m.er==0<;>cases m.n==0<;>cases m.sq==0<;>cases m.lo<;>cases m.ev==0<;>cases zQ m.bd<;>rfl
theorem sm35{m:Ms}(h:m.k=3∨m.k=5):c2_ (e8_ m) m=(m.sq==0&&m.er==0&& !m.lo&&m.ev==0&&zQ m.bd&&Int.ofNat m.ps.length==0&&Int.ofNat m.vs.length==0):=by
 have hb:e8_ m=⟨m.k,m.id,0,m.n,0,false,0,zV,[],1,[],1⟩:=by unfold e8_;rcases h with h|h<;>(rw[h];rfl)
 rw[hb]
 unfold c2_
 simp only[adp_,cond_false,b0ne,vs0,ps0]
 show(cond (!(m.er==0)) false (cond (!(m.sq==0)) false (cond (!(false==m.lo)) false (cond (!(m.ev==0)) false (cond ((0:Int)==m.bd.k) (cond ((0:Int)==m.bd.i) (cond (!(h6_ 0 m.bd.f)) false (cond (!(Int.ofNat m.vs.length==0)) false (cond (!(Int.ofNat m.ps.length==0)) false true))) false) false))))=_)
 rw[bd0]
 cases m.er==0<;>cases m.sq==0<;>cases m.lo<;>cases m.ev==0<;>cases zQ m.bd<;>cases(Int.ofNat m.vs.length==0)<;>cases(Int.ofNat m.ps.length==0)<;>rfl
theorem sm6{m:Ms}(h:m.k=6):c2_ (e8_ m) m=(m.sq==0&& !m.lo&&m.ev==0&&zQ m.bd):=by
 have hb:e8_ m=⟨m.k,m.id,m.er,m.n,0,false,0,zV,m.ps,m.cps,m.vs,m.cvs⟩:=by unfold e8_;rw[h];rfl
 rw[hb]
 unfold c2_
 simp only[adp_,cond_false,b0ne,k0_,g5_]
 show(cond (!(m.sq==0)) false (cond (!(false==m.lo)) false (cond (!(m.ev==0)) false (cond ((0:Int)==m.bd.k) (cond ((0:Int)==m.bd.i) (cond (!(h6_ 0 m.bd.f)) false true) false) false)))=_)
 rw[bd0]
 cases m.sq==0<;>cases m.lo<;>cases m.ev==0<;>cases zQ m.bd<;>rfl
theorem sm7{m:Ms}(h:m.k=7):c2_ (e8_ m) m=(m.id==0&&m.er==0&&m.ev==0&&zQ m.bd&&Int.ofNat m.ps.length==0):=by
 have hb:e8_ m=⟨m.k,0,0,m.n,m.sq,m.lo,0,zV,[],1,m.vs,m.cvs⟩:=by unfold e8_;rw[h];rfl
 rw[hb]
 unfold c2_
 simp only[adp_,cond_false,b0ne,k0_,ps0,beq_self_eq_true,Bool.not_true]
 show(cond (!(m.id==0)) false (cond (!(m.er==0)) false (cond (!(m.ev==0)) false (cond ((0:Int)==m.bd.k) (cond ((0:Int)==m.bd.i) (cond (!(h6_ 0 m.bd.f)) false (cond (!(Int.ofNat m.ps.length==0)) false true)) false) false)))=_)
 rw[bd0]
 cases m.id==0<;>cases m.er==0<;>cases m.ev==0<;>cases zQ m.bd<;>cases(Int.ofNat m.ps.length==0)<;>rfl
theorem sm4{m:Ms}(h:m.k=4):c2_ (e8_ m) m=(m.sq==0&&m.er==0&& !m.lo&&Int.ofNat m.vs.length==0):=by
 have hb:e8_ m=⟨m.k,m.id,0,m.n,0,false,m.ev,m.bd,m.ps,m.cps,[],1⟩:=by unfold e8_;rw[h];rfl
 rw[hb]
 unfold c2_
 simp only[adp_,cond_false,b0ne,vs0,g5_,beq_self_eq_true,cond_true,l3_,Bool.not_true]
 cases m.er==0<;>cases m.sq==0<;>cases m.lo<;>cases(Int.ofNat m.vs.length==0)<;>rfl
theorem dlt(x y:Int):decide (x<y)= !decide (x≥y):=by
 by_cases h:x<y
 ·rw[decide_eq_true h,decide_eq_false (by omega)];rfl
 ·rw[decide_eq_false h,decide_eq_true (by omega)];rfl
theorem dgt(x y:Int):decide (x>y)= !decide (x≤y):=by
 by_cases h:x>y
 ·rw[decide_eq_true h,decide_eq_false (by omega)];rfl
 ·rw[decide_eq_false h,decide_eq_true (by omega)];rfl
theorem x2_{m:Ms}(hv: ∀v∈m.vs,v.k≠5→v.f=0)(hb:m.bd.k≠5→m.bd.f=0):mayM m=(decide (m.k≥1)&&decide (m.k≤7)&&tlQ m&&c2_ (e8_ m) m):=by
 rw[S7_ hv hb]
 unfold mayM
 rw[dlt m.k,dgt m.k,dlt m.ev,dgt m.ev,dlt m.er,dgt m.er]
 cases decide (m.k≥1)<;>cases decide (m.k≤7)<;>try rfl
 cases insB m.id<;>cases insB m.n<;>try rfl
 cases insB m.sq<;>cases decide (m.ev≥0)<;>try rfl
 cases decide (m.ev≤1125899906842624)<;>cases decide (m.er≥0)<;>try rfl
 cases decide (m.er≤13)<;>cases decide (Int.ofNat m.ps.length>5)<;>try rfl
 cases decide (Int.ofNat m.vs.length>5)<;>cases pOkB m<;>try rfl
 cases vOkB m<;>cases bdOk m.bd<;>rfl
theorem aqa_{m:Ms}(hv: ∀v∈m.vs,v.k≠5→v.f=0)(hb:m.bd.k≠5→m.bd.f=0):mayQ m=mayM m:=by
 rw[x2_ hv hb]
 by_cases h1:m.k=1
 ·rw[sm1 h1];unfold mayQ;rw[h1]
  cases m.n==0<;>cases m.sq==0<;>cases m.er==0<;>cases m.lo<;>cases m.ev==0<;>cases zQ m.bd<;>cases(Int.ofNat m.vs.length==0)<;>cases tlQ m<;>rfl
 by_cases h2:m.k=2
 ·rw[sm2 h2];unfold mayQ;rw[h2]
  cases m.n==0<;>cases m.sq==0<;>cases m.er==0<;>cases m.lo<;>cases m.ev==0<;>cases zQ m.bd<;>cases tlQ m<;>rfl
 by_cases h3:m.k=3
 ·rw[sm35 (.inl h3)];unfold mayQ;rw[h3]
  cases m.sq==0<;>cases m.er==0<;>cases m.lo<;>cases m.ev==0<;>cases zQ m.bd<;>cases(Int.ofNat m.ps.length==0)<;>cases(Int.ofNat m.vs.length==0)<;>cases tlQ m<;>rfl
 by_cases h4:m.k=4
 ·rw[sm4 h4];unfold mayQ;rw[h4]
  cases m.sq==0<;>cases m.er==0<;>cases m.lo<;>cases(Int.ofNat m.vs.length==0)<;>cases tlQ m<;>rfl
 by_cases h5:m.k=5
 ·rw[sm35 (.inr h5)];unfold mayQ;rw[h5]
  cases m.sq==0<;>cases m.er==0<;>cases m.lo<;>cases m.ev==0<;>cases zQ m.bd<;>cases(Int.ofNat m.ps.length==0)<;>cases(Int.ofNat m.vs.length==0)<;>cases tlQ m<;>rfl
 by_cases h6:m.k=6
 ·rw[sm6 h6];unfold mayQ;rw[h6]
  cases m.sq==0<;>cases m.lo<;>cases m.ev==0<;>cases zQ m.bd<;>cases tlQ m<;>rfl
 by_cases h7:m.k=7
 ·rw[sm7 h7];unfold mayQ;rw[h7]
  cases m.id==0<;>cases m.er==0<;>cases m.ev==0<;>cases zQ m.bd<;>cases(Int.ofNat m.ps.length==0)<;>cases tlQ m<;>rfl
 have e: ∀k:Int,m.k≠k→(m.k==k)=false:=fun k h=>by simpa using h
 have hk:(decide (m.k≥1)&&decide (m.k≤7))=false:=by
  rw[Bool.and_eq_false_iff]
  by_cases h:m.k≥1
  ·exact .inr (decide_eq_false (by omega))
  ·exact .inl (decide_eq_false h)
 rw[hk]
 unfold mayQ
 rw[e 1 h1,e 2 h2,e 3 h3,e 4 h4,e 5 h5,e 6 h6,e 7 h7];rfl
theorem aii_{m:Ms}(hv: ∀v∈m.vs,v.k≠5→v.f=0)(hb:m.bd.k≠5→m.bd.f=0):putQ m=pmL m:=by
 unfold putQ pmL
 rw[aqa_ hv hb]
theorem alm_{v:Vl}(h:v.k=1∨v.k=2∨v.k=3∨v.k=4∨v.k=5):(rwL v).length=wiK v.k:=by
 unfold rwL
 rcases h with h|h|h|h|h<;>(rw[h];rfl)
theorem aiB_{L:List U8}{i w:Nat}(h:i+w≤L.length):mdL L i w=(L.drop i).take w:=by
 unfold mdL
 refine List.ext_getElem (by simp;omega) fun j h1 h2=> ?_
 have hj:j<w:=by simpa using h1
 have hl:i+j<L.length:=by omega
 simp[List.getD,hl]
end Go.Proofs.YtachglcffimmeaaGreat.Ev
end
