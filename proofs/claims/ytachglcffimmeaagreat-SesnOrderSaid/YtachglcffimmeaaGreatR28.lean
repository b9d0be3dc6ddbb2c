/-
  sesn.twin: told.
-/
import Derived.Test.YtachglcffimmeaaGreatR27
import Derived.Test.YtachglcffimmeaaGreatR26
set_option linter.unusedVariables false
set_option linter.unusedSimpArgs false
set_option maxRecDepth 1000000
namespace Go.Proofs.YtachglcffimmeaaGreat.Ev
open Go Go.Proofs Go.RowKit
theorem akR_{s:Ss}{β:Bs}(hβ:β.X.length=4)(hl:s.sub.length≤100000)(hok:s.sub.all (okA Wt)=true):LoopJ Tryz.prog β (exTw s) 0 (a5_ Tryz.prog 25 0) (FTw s (0:Nat)) (STw s):=by
 refine C1_ (N:=s.sub.length) (F:=fun k=>FTw s (k:Nat)) (S:=fun k=>STw s) (fun K hK=>hK) (fun k Nx hk h1 h2=> ?_)
 refine rJ_ (E:=4) (lvs:=fun _=>slTw) (un:=fun _=>0) (fuel:=100) (n:=20) (ex:=fun _ _=>False) follows toldN1_ok hβ (lv:=fun _=>slTw) ?_
 rw[akr_]
 try dsimp only
 have e0:Int.toNat (k:Int)=k:=Int.toNat_natCast k
 rw[e0,Nat.zero_add]
 refine a0_ (fun hlt=> ?_) (fun hlt=> ?_)
 ·have hlt:k<s.sub.length:=by simpa using hlt
  have hw:IntKind.wrap .i64 ((k:Int)+1)=((k+1:Nat):Int):=w64 (by omega) (by omega)
  obtain⟨a1,a2,a3⟩:=r0_ (r5_ hok hlt)
  have c3:Nat.blt k s.sub.length=true:=by simpa using hlt
  rw[hw]
  refine nd_ (by simp) (nd_ c3 (nd_ (by simpa using hlt) (nd_ (by simp) (nd_ (F6_ a2 a3 rfl) (nd_ (by simp) (nd_ c3 (nd_ (by simp) (nd_ c3 ?_))))))))
  refine h1 hlt _ _ (Seen.objs rfl fun q o2 h=> ?_)
  match q,h with
  |0,h=>cases h;exact⟨_,rfl,rfl,fun _ _ _ h=>h⟩
  |1,h=>cases h;exact⟨_,rfl,rfl,fun _ _ _ h=>h⟩
  |2,h=>cases h;exact⟨_,rfl,rfl,fun _ _ _ h=>h⟩
  |3,h=>cases h;exact⟨_,rfl,rfl,fun _ _ _ h=>h⟩
  |4,h=>cases h;exact⟨_,rfl,rfl,fun _ _ _ h=>h⟩
  |5,h=>cases h;exact⟨_,rfl,rfl,fun _ _ _ h=>h⟩
  |6,h=>cases h;exact⟨_,rfl,rfl,fun _ _ _ h=>h⟩
  |7,h=>cases h;exact⟨_,rfl,rfl,fun _ _ _ h=>h⟩
  |8,h=>
   cases h
   refine⟨_,rfl,rfl,fun _ _ _ h=>ObjR.row_congr rfl (fun i _ _ j hj=> ?_) h⟩
   have:=abH_ (α:=Wt) (A:=s.sub) (i0:=k) (off:=14) (a:=s.sub.getD k Enc.dflt) (g:=encL s.sub) (ts:=[.fr 5 (s.sub.getD k Enc.dflt).qu.length (s.sub.getD k Enc.dflt).cqu fun i=>encL (s.sub.getD k Enc.dflt).qu (0+(0+i))]) hlt (fun _ _ _=>rfl) (fun j h1 h2 _=>by
    have:j=14:=by simp at h2;omega
    subst this
    show Td.fr 5 _ _ _=Td.fr 5 _ _ _
    simp only[Nat.zero_add]) (fun j _ _=>rfl) i j hj
   rw[ahJ_]at this
   exact this
  |9,h=>cases h;exact⟨_,rfl,rfl,fun _ _ _ h=>h⟩
  |_+10,h=>cases h
 ·have hge: ¬k<s.sub.length:=by simpa using hlt
  have hkn:k=s.sub.length:=by omega
  subst hkn
  exact h2 rfl
def fitS(s:Ss):Bool:=Nat.ble s.ins.length 100000&&Nat.ble s.out.length 100000&&Nat.ble s.sub.length 100000
theorem s4_{α:Type}[Enc α](l:List α)(c:Nat):a4_ α (Td.fr (Enc.es α) l.length c fun i=>encL l (0+i))=l:=by rw[encZ];exact lT_ l c
theorem akQ_:c5_ Tryz.prog 25 (okA1 (Sc Ss) fun s=>fitS s.x) (g9_ (Sc Ss) fun s=> .ret (ansO (nrm s.x))):=by
 refine l0_ follows fun r hg hp=>⟨toldN1,100,20,fun _=>0,fun _=>slTw,exTw r.x,toldN1_ok,fun β hβ=> ?_⟩
 obtain⟨s⟩:=r
 obtain⟨g1,g2,g3,g4,g5,g6,g7,g8,g9,g10,g11,g12⟩:=g6_ hg
 have hp:fitS s=true:=hp
 unfold fitS at hp
 simp only[Bool.and_eq_true]at hp
 obtain⟨⟨p1,p2⟩,p3⟩:=hp
 have p3:=Nat.le_of_ble_eq_true p3
 show lawE Tryz.prog toldN1 100 20 β (fun _=>0) (cnOf 4 fun _=>slTw) (exTw s) 25 [ssV s 0] (mkS (ssR .look s)) (outC 4 fun r m=> ∃m2,a6_ m m2∧ansE (.ret (ansO (nrm s))) r (mkS m2))
 refine(apd_ s β _).mpr ?_
 try dsimp only
 have z1:=s4_ (α:=Ms) s.ins s.cins
 have z2:=s4_ (α:=Ms) s.out s.cout
 have y1:=encZ s.fb
 have y2:=encZ s.ins
 have y3:=encZ s.out
 have y4:=encZ s.sub
 have z1:a4_ Ms (Td.fr 12 s.ins.length s.cins fun i=>encL s.ins (0+i))=s.ins:=z1
 have z2:a4_ Ms (Td.fr 12 s.out.length s.cout fun i=>encL s.out (0+i))=s.out:=z2
 rw[z1,z2,y1,y2,y3,y4]
 refine nd_ (by simp) (nd_ (F6_ g2 g3 rfl) (nd_ (by simp) (nd_ (O8_ g4 g5 g6 p1) (nd_ (by simp) (nd_ (O8_ g7 g8 g9 p2) (nd_ (by simp) (nd_ (F6_ g11 g12 rfl) ⟨akR_ hβ p3 g10,?_⟩)))))))
 refine⟨_,a6_.refl _,[4,5,6,7],⟨_,rfl,?_⟩,by simp⟩
 refine rS_ rfl rfl (rS_ rfl rfl (rO_ (l1:=[4]) (l2:=[5,6,7]) (h8_ s.fb rfl fun _=>rfl) ?_))
 refine rS_ rfl rfl (rO_ (l1:=[5]) (l2:=[6,7]) (h8_ s.ins rfl fun _=>rfl) ?_)
 refine rO_ (l1:=[6]) (l2:=[7]) (h8_ s.out rfl fun _=>rfl) ?_
 refine rO_ (l1:=[7]) (l2:=[]) (h8_ s.sub rfl fun _=>rfl) ?_
 exact rS_ rfl rfl i4_
def ajB_:Told:=toldN1.tree 25 (okA1 (Sc Ss) fun s=>fitS s.x) (g9_ (Sc Ss) fun s=> .ret (ansO (nrm s.x)))
theorem aed_:a8_ Tryz.prog ajB_:=Told.tree_ok toldN1_ok akQ_
theorem air_{α:Type}[Enc α][EncO α][EncQ α]{p:α→α→Bool}{x y:α}(hx:okA α x=true)(hy:okA α y=true)(hp:p x y=true):okS2 α p [.agg (b1_ x),.agg (b1_ y)]=true:=by
 show(Nat.beq (b1_ x).length (Enc.es α)&&Nat.beq (b1_ y).length (Enc.es α)&&Enc.ok α (nthT (b1_ x))&&Enc.ok α (nthT (b1_ y))&&p (Enc.dec (nthT (b1_ x))) (Enc.dec (nthT (b1_ y))))=true
 rw[eL_,eL_,Nat.beq_refl,(dE_ x).1,(dE_ x).2,(dE_ y).1,(dE_ y).2,hx,hy,hp];rfl
theorem alb_{l m:List Ms}{c d:Nat}{β:Bs}(hβ:β.X.length=2)(hlm:l.length=m.length)(hl:l.length≤1000000)(ok1:l.all (okA Ms)=true)(ok2:m.all (okA Ms)=true):LoopJ Tryz.prog β (exSs l m c d) 0 (a5_ Tryz.prog 29 0) (FSs l m c d (0:Nat)) (SSs l m):=by
 refine Q8_ (N:=l.length) (F:=fun k=>FSs l m c d (k:Nat)) (S:=SSs l m) (Fr:=FSsr) (Sr:=SSs l m) (p:=fun i=>c2_ (l.getD i Enc.dflt) (m.getD i Enc.dflt)) (fun K hK=>hK) (fun k Nx hk h1 h2 h3=> ?_)
 refine rJ_ (E:=2) (lvs:=fun _=>slSs) (un:=fun _=>0) (fuel:=100) (n:=20) (ex:=fun _ _=>False) follows toldM6_ok hβ (lv:=lvSs) ?_
 rw[akv_]
 try dsimp only
 have e0:Int.toNat (k:Int)=k:=Int.toNat_natCast k
 simp only[e0,Nat.zero_add]
 refine a0_ (fun hlt=> ?_) (fun hlt=> ?_)
 ·have hlt:k<l.length:=by simpa using hlt
  have hw:IntKind.wrap .i64 ((k:Int)+1)=((k+1:Nat):Int):=w64 (by omega) (by omega)
  have c3:Nat.blt k l.length=true:=by simpa using hlt
  have c4:Nat.blt k m.length=true:=by rw[←hlm];exact c3
  have a1:=r5_ ok1 hlt
  have a2:=r5_ ok2 (k:=k) (by omega)
  rw[hw]
  refine nd_ (by simp) (nd_ c3 (nd_ (by simpa using hlt) (nd_ (by simp) (nd_ c4 (nd_ (by rw[c4];rfl) (nd_ (by simp) (nd_ (by simp) (nd_ (by simp) (nd_ (by simp) (nd_ (air_ a1 a2 rfl) ?_))))))))))
  refine a0_ (fun hq=>h1 hlt ?_) (fun hq=>h2 hlt ?_)
  ·have hq:(!c2_ (Enc.dec (nthT (b1_ (l.getD k Enc.dflt)))) (Enc.dec (nthT (b1_ (m.getD k Enc.dflt)))))=true:=hq
   rw[(dE_ _).1,(dE_ _).1]at hq
   simpa using hq
  ·have hq:(!c2_ (Enc.dec (nthT (b1_ (l.getD k Enc.dflt)))) (Enc.dec (nthT (b1_ (m.getD k Enc.dflt)))))=false:=hq
   rw[(dE_ _).1,(dE_ _).1]at hq
   simpa using hq
 ·have hge: ¬k<l.length:=by simpa using hlt
  have hkn:k=l.length:=by omega
  subst hkn
  exact h3 rfl
theorem ala_:c5_ Tryz.prog 29 (okA2 (Rw Ms) (Rw Ms) fun _ _=>true) (t0_ (Rw Ms) (Rw Ms) fun l m=>bAns (Nat.beq l.l.length m.l.length&&l4_ l.l m.l)):=by
 refine D4_ follows fun r t hr ht _=>⟨toldM6,100,20,fun _=>0,fun _=>slSs,exSs r.l t.l r.c t.c,toldM6_ok,fun β hβ=> ?_⟩
 obtain⟨l,c⟩:=r
 obtain⟨m,d⟩:=t
 obtain⟨g1,g2,g3⟩:=hr
 obtain⟨k1,k2,k3⟩:=ht
 show lawE Tryz.prog toldM6 100 20 β (fun _=>0) (cnOf 2 fun _=>slSs) (exSs l m c d) 29 [.slice (some ⟨0,0,some 0⟩) l.length c,.slice (some ⟨1,0,some 0⟩) m.length d] (SSs l m) (outC 2 fun r q=> ∃m2,a6_ q m2∧ansE (bAns (Nat.beq l.length m.length&&l4_ l m)) r (mkS m2))
 refine(aph_ l m c d β _).mpr ?_
 refine a0_ (fun q=>bL_ ?_) (fun q=> ?_)
 ·have h:l.length≠m.length:=fun h=>by rw[h]at q;simp at q
  rw[b8_ h];rfl
 ·have h:l.length=m.length:=by
   have:=(bne_eq_false_iff_eq).1 q
   exact Int.ofNat.inj this
  refine⟨alb_ hβ h g2 g1 k1,fun e=>bL_ ?_,fun e=>bL_ ?_⟩
  ·rw[e,Bool.and_false]
  ·rw[e,h,Nat.beq_refl];rfl
def ajA_:Told:=ajB_.tree 29 (okA2 (Rw Ms) (Rw Ms) fun _ _=>true) (t0_ (Rw Ms) (Rw Ms) fun l m=>bAns (Nat.beq l.l.length m.l.length&&l4_ l.l m.l))
theorem aec_:a8_ Tryz.prog ajA_:=Told.tree_ok aed_ ala_
def w4_(a b:Wt):Bool:=(cond (Wt.nu a !=Wt.nu b) false (cond (Wt.ad a !=Wt.ad b) false (cond (Wt.ev a !=Wt.ev b) false (cond (Wt.du a !=Wt.du b) false (cond (Vl.k (Wt.bd a)==Vl.k (Wt.bd b)) (cond (Vl.i (Wt.bd a)==Vl.i (Wt.bd b)) (cond (!h6_ (Vl.f (Wt.bd a)) (Vl.f (Wt.bd b))) false (cond (Wt.mo a !=Wt.mo b) false (cond (!Wt.ha a==Wt.ha b) false (cond (!Wt.lo a==Wt.lo b) false (cond (Vl.k (Wt.la a)==Vl.k (Wt.la b)) (cond (Vl.i (Wt.la a)==Vl.i (Wt.la b)) (cond (!h6_ (Vl.f (Wt.la a)) (Vl.f (Wt.la b))) false (cond (Wt.sq a !=Wt.sq b) false (cond (Int.ofNat (List.length (Wt.qu a)) !=Int.ofNat (List.length (Wt.qu b))) false (E0_ (Wt.qu a) (Wt.qu b))))) false) false))))) false) false)))))
theorem akX_{a b:Wt}{β:Bs}(hβ:β.X.length=2)(hlm:a.qu.length=b.qu.length)(hl:a.qu.length≤1000000):LoopJ Tryz.prog β (exSw a b) 0 (a5_ Tryz.prog 30 0) (FSw (0:Nat)) (SSw a b):=by
 refine Q8_ (N:=a.qu.length) (F:=fun k=>FSw (k:Nat)) (S:=SSw a b) (Fr:=FSwr) (Sr:=SSwr a b) (p:=fun i=>N1_ (a.qu.getD i Enc.dflt) (b.qu.getD i Enc.dflt)) (fun K hK=>hK) (fun k Nx hk h1 h2 h3=> ?_)
 refine rJ_ (E:=2) (lvs:=fun _=>slSw) (un:=fun _=>0) (fuel:=100) (n:=20) (ex:=fun _ _=>False) follows toldM6_ok hβ (lv:=lvSw) ?_
 rw[akt_]
 try dsimp only
 have e0:Int.toNat (k:Int)=k:=Int.toNat_natCast k
 simp only[e0,Nat.zero_add]
 refine a0_ (fun hlt=> ?_) (fun hlt=> ?_)
 ·have hlt:k<a.qu.length:=by simpa using hlt
  have hw:IntKind.wrap .i64 ((k:Int)+1)=((k+1:Nat):Int):=w64 (by omega) (by omega)
  have c3:Nat.blt k a.qu.length=true:=by simpa using hlt
  have c4:Nat.blt k b.qu.length=true:=by rw[←hlm];exact c3
  rw[hw]
  refine nd_ (by simp) (nd_ c3 (nd_ (by simpa using hlt) (nd_ (by simp) (nd_ c4 (nd_ (by rw[c4];rfl) ?_)))))
  have h1:=h1 hlt
  have h2:=h2 hlt
  refine a0_ (fun q1=>a0_ (fun q2=>a0_ (fun q3=>a0_ (fun q4=>a0_ (fun q5=>h1 ?_) (fun q5=>h2 ?_)) (fun q4=>h1 ?_)) (fun q3=>h1 ?_)) (fun q2=>h1 ?_)) (fun q1=>h1 ?_)
  ·unfold N1_;rw[q1,q2,q3,q4];simpa using q5
  ·unfold N1_;rw[q1,q2,q3,q4];simpa using q5
  ·unfold N1_;rw[q1,q2,q3,q4];rfl
  ·unfold N1_;rw[q1,q2,q3];rfl
  ·unfold N1_;rw[q1,q2];rfl
  ·unfold N1_;rw[q1];rfl
 ·have hge: ¬k<a.qu.length:=by simpa using hlt
  have hkn:k=a.qu.length:=by omega
  rw[hkn]
  exact h3 hkn
theorem akW_:c5_ Tryz.prog 30 (okA2 (Sc Wt) (Sc Wt) fun _ _=>true) (t0_ (Sc Wt) (Sc Wt) fun a b=>bAns (w4_ a.x b.x)):=by
 refine D4_ follows fun r t hr ht _=>⟨toldM6,100,20,fun _=>0,fun _=>slSw,exSw r.x t.x,toldM6_ok,fun β hβ=> ?_⟩
 obtain⟨a⟩:=r
 obtain⟨b⟩:=t
 obtain⟨g1,g2,g3⟩:=r0_ hr
 show lawE Tryz.prog toldM6 100 20 β (fun _=>0) (cnOf 2 fun _=>slSw) (exSw a b) 30 [wtV a 0,wtV b 1] (mkS [some (rowO .look a.qu),some (rowO .look b.qu)]) (outC 2 fun r q=> ∃m2,a6_ q m2∧ansE (bAns (w4_ a b)) r (mkS m2))
 refine(apf_ a b β _).mpr ?_
 try dsimp only
 repeat' (refine a0_ (fun _=> ?_) (fun _=> ?_))
 all_goals first
  |exact bL_ (by simp only[w4_, *,cond_true,cond_false])
  |skip
 rename_i q
 have h:a.qu.length=b.qu.length:=by
  have:=(bne_eq_false_iff_eq).1 q
  exact Int.ofNat.inj this
 refine⟨akX_ hβ h g2,fun e=>bL_ ?_,fun e=>bL_ ?_⟩
 all_goals clear h
 ·simp only[w4_, *,cond_true,cond_false]
 ·simp only[w4_, *,cond_true,cond_false]
def toldN4:Told:=ajA_.tree 30 (okA2 (Sc Wt) (Sc Wt) fun _ _=>true) (t0_ (Sc Wt) (Sc Wt) fun a b=>bAns (w4_ a.x b.x))
theorem toldN4_ok:a8_ Tryz.prog toldN4:=Told.tree_ok aec_ akW_
def slSe:List Nat:=[2,3,5]
def lvSe:AX→List Nat:=fun x=>match x with
 | .ret=>[4]
 |_=>slSe
def D9_(l m:List Wt):Bool:=(List.range l.length).all fun i=>w4_ (l.getD i Enc.dflt) (m.getD i Enc.dflt)
def FSe(k:Int):AFr:=mkF 77 [(2,.pointer (some ⟨8,0,none⟩)),(3,.pointer (some ⟨9,0,none⟩)),(5,.int .i64 k)]
def FSer:AFr:=mkF 77 [(4,.bool false)]
def SSe(a b:Ss):ASt:=mkS (ssR .look a++ssR .look b++[some (ssO a 0),some (ssO b 4)])
def SSer(a b:Ss):ASt:=mkS (ssR .look a++ssR .look b)
def exSe(a b:Ss):Nat→Kt→Prop:=fun x K=>(D9_ a.sub b.sub=false→K .ret FSer (SSer a b))∧(D9_ a.sub b.sub=true→K (.exit x) (FSe a.sub.length) (SSe a b))
theorem apk_(a b:Ss)(β:Bs)(K:AE→List (Option AObj)→Prop):lawE Tryz.prog toldN4 100 20 β (fun _=>0) (cnOf 8 fun _=>slSe) (exSe a b) 9 [ssV a 0,ssV b 4] (mkS (ssR .look a++ssR .look b)) (outC 8 K)=
 (fun(z6 z7 z8 z9 z10 z11 z12 z13:Nat) (z22:AE)=>((fun(z2 z3 z4 z5:Td) (z14 z15 z16 z17 z18 z19 z20 z21:AObj)=>((fun(z0:List (Option AObj))=>((fun(z1:Prop)=>(br (!Ss.on a==Ss.on b) z1 (br (Ss.se a !=Ss.se b) z1 (br (Ss.ba a==Ss.ba b) (need (true&&Nat.ble (0+List.length (Ss.fb a)) z6) (need (allB z6 fun j=>encL (Ss.fb a) (0+j)) (need (true&&Nat.ble (0+List.length (Ss.fb b)) z7) (need (allB z7 fun j=>encL (Ss.fb b) (0+j)) (br (!List.map (fun j=>x9_ (encL (Ss.fb a) (0+j) 0)) (List.range z6)==List.map (fun j=>x9_ (encL (Ss.fb b) (0+j) 0)) (List.range z7)) z1 (need (true&&Nat.ble (0+List.length (Ss.ins a)) z8) (need (true&&Nat.ble (0+List.length (Ss.ins b)) z9) (need (okA2 (Rw Ms) (Rw Ms) (fun x x_1=>true) [Ta.cell z2,Ta.cell z3]) (br (!(Nat.beq (List.length (a4_ Ms z2)) (List.length (a4_ Ms z3))&&l4_ (a4_ Ms z2) (a4_ Ms z3))) z1 (need (true&&Nat.ble (0+List.length (Ss.out a)) z10) (need (true&&Nat.ble (0+List.length (Ss.out b)) z11) (need (okA2 (Rw Ms) (Rw Ms) (fun x x_1=>true) [Ta.cell z4,Ta.cell z5]) (br (!(Nat.beq (List.length (a4_ Ms z4)) (List.length (a4_ Ms z5))&&l4_ (a4_ Ms z4) (a4_ Ms z5))) z1 (br (Ss.num a !=Ss.num b) z1 (br (Int.ofNat z12 !=Int.ofNat z13) z1 (LoopJ Tryz.prog β (exSe a b) 0 (a5_ Tryz.prog 9 0) (mkF 77 [(2,.pointer (some ⟨8,0,none⟩)),(3,.pointer (some ⟨9,0,none⟩)),(5,.int .i64 (0:Int))]) (mkS [some z20,some z18,some z14,some z15,some z21,some z19,some z16,some z17,some (.cells [.bool (Ss.on a),.int .i64 (Ss.se a),.slice (some ⟨0,0,some 0⟩) z6 (Ss.cfb a),.bool (Ss.ba a),.slice (some ⟨1,0,some 0⟩) z8 (Ss.cins a),.slice (some ⟨2,0,some 0⟩) z10 (Ss.cout a),.slice (some ⟨3,0,some 0⟩) z12 (Ss.csub a),.int .i64 (Ss.num a)] true 0),some (.cells [.bool (Ss.on b),.int .i64 (Ss.se b),.slice (some ⟨4,0,some 0⟩) z7 (Ss.cfb b),.bool (Ss.ba b),.slice (some ⟨5,0,some 0⟩) z9 (Ss.cins b),.slice (some ⟨6,0,some 0⟩) z11 (Ss.cout b),.slice (some ⟨7,0,some 0⟩) z13 (Ss.csub b),.int .i64 (Ss.num b)] true 0)])∧(D9_ (Ss.sub a) (Ss.sub b)=false→K z22 z0)∧(D9_ (Ss.sub a) (Ss.sub b)=true→K (.returned (.bool true)) z0))))))))))))))))) z1)))) (K z22 z0))) [some z20,some z18,some z14,some z15,some z21,some z19,some z16,some z17])) (.fr 12 z8 (Ss.cins a) fun i=>encL (Ss.ins a) (0+i)) (.fr 12 z9 (Ss.cins b) fun i=>encL (Ss.ins b) (0+i)) (.fr 12 z10 (Ss.cout a) fun i=>encL (Ss.out a) (0+i)) (.fr 12 z11 (Ss.cout b) fun i=>encL (Ss.out b) (0+i)) (.row .look 12 0 z10 (encL (Ss.out a))) (.row .look 15 0 z12 (encL (Ss.sub a))) (.row .look 12 0 z11 (encL (Ss.out b))) (.row .look 15 0 z13 (encL (Ss.sub b))) (.row .look 12 0 z8 (encL (Ss.ins a))) (.row .look 12 0 z9 (encL (Ss.ins b))) (.row .look 1 0 z6 (encL (Ss.fb a))) (.row .look 1 0 z7 (encL (Ss.fb b))))) (List.length (Ss.fb a)) (List.length (Ss.fb b)) (List.length (Ss.ins a)) (List.length (Ss.ins b)) (List.length (Ss.out a)) (List.length (Ss.out b)) (List.length (Ss.sub a)) (List.length (Ss.sub b)) (.returned (.bool false)):=by kernel_rfl
theorem akx_(a b:Ss)(k:Int)(β:Bs)(Nx:Kt):c0_ Tryz.prog toldN4 100 20 β (fun _=>0) (cnOf 8 fun _=>slSe) (fun _ _=>False) 9 0 8 lvSe (FSe k) (SSe a b) Nx=
 (fun(z5 z6 z7 z18 z19 z20 z21:Nat) (z12 z13:AObj)=>((fun(z0 z1:Wt) (z8 z9 z10 z11 z14 z15:AObj)=>((fun(z2:ASt) (z16 z17:Nat)=>((fun(z3 z4:List Td)=>(br (decide (k<Int.ofNat z5)) (need (decide ((0:Int)≤k)) (need (Nat.blt (Int.toNat k) z5) (need (Nat.ble 0 z7&&Nat.blt z7 z5) (need (decide ((0:Int)≤k)) (need (Nat.blt (Int.toNat k) z6) (need (Nat.ble 0 z7&&Nat.blt z7 z6) (need (true&&Nat.ble (0+List.length (Wt.qu z0)) z16) (need (true&&Nat.ble (0+List.length (Wt.qu z1)) z17) (need (okA2 (Sc Wt) (Sc Wt) (fun x x_1=>true) [Ta.agg z3,Ta.agg z4]) (br (!w4_ (Enc.dec (nthT z3)) (Enc.dec (nthT z4))) (Nx .ret (mkF 77 [(4,.bool false)]) (mkS [some z12,some z8,some z9,some z14,some z13,some z10,some z11,some z15])) (Nx .normal (mkF 77 [(2,.pointer (some ⟨8,0,none⟩)),(3,.pointer (some ⟨9,0,none⟩)),(5,.int .i64 (IntKind.wrap .i64 (k+(1:Int))))]) z2))))))))))) (Nx (.exit 0) (mkF 77 [(2,.pointer (some ⟨8,0,none⟩)),(3,.pointer (some ⟨9,0,none⟩)),(5,.int .i64 k)]) z2))) [.sc (.int .i64 (Wt.nu z0)),.sc (.int .i64 (Wt.ad z0)),.sc (.int .i64 (Wt.ev z0)),.sc (.int .i64 (Wt.du z0)),.sc (.int .i64 (Vl.k (Wt.bd z0))),.sc (.int .i64 (Vl.i (Wt.bd z0))),.sc (.float .f64 (Vl.f (Wt.bd z0))),.sc (.int .i64 (Wt.mo z0)),.sc (.bool (Wt.ha z0)),.sc (.bool (Wt.lo z0)),.sc (.int .i64 (Vl.k (Wt.la z0))),.sc (.int .i64 (Vl.i (Wt.la z0))),.sc (.float .f64 (Vl.f (Wt.la z0))),.sc (.int .i64 (Wt.sq z0)),.fr 5 z16 (Wt.cqu z0) fun i=>encL (Wt.qu z0) (0+i)] [.sc (.int .i64 (Wt.nu z1)),.sc (.int .i64 (Wt.ad z1)),.sc (.int .i64 (Wt.ev z1)),.sc (.int .i64 (Wt.du z1)),.sc (.int .i64 (Vl.k (Wt.bd z1))),.sc (.int .i64 (Vl.i (Wt.bd z1))),.sc (.float .f64 (Vl.f (Wt.bd z1))),.sc (.int .i64 (Wt.mo z1)),.sc (.bool (Wt.ha z1)),.sc (.bool (Wt.lo z1)),.sc (.int .i64 (Vl.k (Wt.la z1))),.sc (.int .i64 (Vl.i (Wt.la z1))),.sc (.float .f64 (Vl.f (Wt.la z1))),.sc (.int .i64 (Wt.sq z1)),.fr 5 z17 (Wt.cqu z1) fun i=>encL (Wt.qu z1) (0+i)])) (mkS [some z12,some z8,some z9,some z14,some z13,some z10,some z11,some z15,some (.cells [.bool (Ss.on a),.int .i64 (Ss.se a),.slice (some ⟨0,0,some 0⟩) (List.length (Ss.fb a)) (Ss.cfb a),.bool (Ss.ba a),.slice (some ⟨1,0,some 0⟩) z18 (Ss.cins a),.slice (some ⟨2,0,some 0⟩) z19 (Ss.cout a),.slice (some ⟨3,0,some 0⟩) z5 (Ss.csub a),.int .i64 (Ss.num a)] true 0),some (.cells [.bool (Ss.on b),.int .i64 (Ss.se b),.slice (some ⟨4,0,some 0⟩) (List.length (Ss.fb b)) (Ss.cfb b),.bool (Ss.ba b),.slice (some ⟨5,0,some 0⟩) z20 (Ss.cins b),.slice (some ⟨6,0,some 0⟩) z21 (Ss.cout b),.slice (some ⟨7,0,some 0⟩) z6 (Ss.csub b),.int .i64 (Ss.num b)] true 0)]) (List.length (Wt.qu z0)) (List.length (Wt.qu z1)))) (List.getD (Ss.sub a) z7 Enc.dflt) (List.getD (Ss.sub b) z7 Enc.dflt) (.row .look 12 0 z18 (encL (Ss.ins a))) (.row .look 12 0 z19 (encL (Ss.out a))) (.row .look 12 0 z20 (encL (Ss.ins b))) (.row .look 12 0 z21 (encL (Ss.out b))) (.row .look 15 0 z5 (encL (Ss.sub a))) (.row .look 15 0 z6 (encL (Ss.sub b))))) (List.length (Ss.sub a)) (List.length (Ss.sub b)) (0+Int.toNat k) (List.length (Ss.ins a)) (List.length (Ss.out a)) (List.length (Ss.ins b)) (List.length (Ss.out b)) (.row .look 1 0 (List.length (Ss.fb a)) (encL (Ss.fb a))) (.row .look 1 0 (List.length (Ss.fb b)) (encL (Ss.fb b))):=by kernel_rfl
def bys(l:List U8):List UInt8:=(List.range l.length).map fun j=>x9_ (encL l j 0)
def i2_(a b:Ss):Bool:=cond (!(a.on==b.on)) false (cond (a.se !=b.se) false (cond (a.ba==b.ba) (cond (!(bys a.fb==bys b.fb)) false (cond (!(Nat.beq a.ins.length b.ins.length&&l4_ a.ins b.ins)) false (cond (!(Nat.beq a.out.length b.out.length&&l4_ a.out b.out)) false (cond (a.num !=b.num) false (cond (Int.ofNat a.sub.length !=Int.ofNat b.sub.length) false (D9_ a.sub b.sub)))))) false))
theorem ali_{a b:Ss}{β:Bs}(hβ:β.X.length=8)(hlm:a.sub.length=b.sub.length)(hl:a.sub.length≤1000000)(ok1:a.sub.all (okA Wt)=true)(ok2:b.sub.all (okA Wt)=true):LoopJ Tryz.prog β (exSe a b) 0 (a5_ Tryz.prog 9 0) (FSe (0:Nat)) (SSe a b):=by
 refine Q8_ (N:=a.sub.length) (F:=fun k=>FSe (k:Nat)) (S:=SSe a b) (Fr:=FSer) (Sr:=SSer a b) (p:=fun i=>w4_ (a.sub.getD i Enc.dflt) (b.sub.getD i Enc.dflt)) (fun K hK=>hK) (fun k Nx hk h1 h2 h3=> ?_)
 refine rJ_ (E:=8) (lvs:=fun _=>slSe) (un:=fun _=>0) (fuel:=100) (n:=20) (ex:=fun _ _=>False) follows toldN4_ok hβ (lv:=lvSe) ?_
 rw[akx_]
 try dsimp only
 have e0:Int.toNat (k:Int)=k:=Int.toNat_natCast k
 simp only[e0,Nat.zero_add]
 refine a0_ (fun hlt=> ?_) (fun hlt=> ?_)
 ·have hlt:k<a.sub.length:=by simpa using hlt
  have hw:IntKind.wrap .i64 ((k:Int)+1)=((k+1:Nat):Int):=w64 (by omega) (by omega)
  have c3:Nat.blt k a.sub.length=true:=by simpa using hlt
  have c4:Nat.blt k b.sub.length=true:=by rw[←hlm];exact c3
  have a1:=r5_ ok1 hlt
  have a2:=r5_ ok2 (k:=k) (by omega)
  rw[hw]
  refine nd_ (by simp) (nd_ c3 (nd_ (by rw[c3];rfl) (nd_ (by simp) (nd_ c4 (nd_ (by rw[c4];rfl) (nd_ (by simp) (nd_ (by simp) (nd_ ((afr_ _ _).trans (by rw[a1,a2];rfl)) ?_))))))))
  refine a0_ (fun hq=>h1 hlt ?_) (fun hq=>h2 hlt ?_)
  ·have hq:(!w4_ (Enc.dec (nthT (b1_ (a.sub.getD k Enc.dflt)))) (Enc.dec (nthT (b1_ (b.sub.getD k Enc.dflt)))))=true:=hq
   rw[(dE_ _).1,(dE_ _).1]at hq
   simpa using hq
  ·have hq:(!w4_ (Enc.dec (nthT (b1_ (a.sub.getD k Enc.dflt)))) (Enc.dec (nthT (b1_ (b.sub.getD k Enc.dflt)))))=false:=hq
   rw[(dE_ _).1,(dE_ _).1]at hq
   simpa using hq
 ·have hge: ¬k<a.sub.length:=by simpa using hlt
  have hkn:k=a.sub.length:=by omega
  rw[hkn]
  exact h3 hkn
theorem alh_:c5_ Tryz.prog 9 (okA2 (Sc Ss) (Sc Ss) fun _ _=>true) (t0_ (Sc Ss) (Sc Ss) fun a b=>bAns (i2_ a.x b.x)):=by
 refine D4_ follows fun r t hr ht _=>⟨toldN4,100,20,fun _=>0,fun _=>slSe,exSe r.x t.x,toldN4_ok,fun β hβ=> ?_⟩
 obtain⟨a⟩:=r
 obtain⟨b⟩:=t
 obtain⟨g1,g2,g3,g4,g5,g6,g7,g8,g9,g10,g11,g12⟩:=g6_ hr
 obtain⟨k1,k2,k3,k4,k5,k6,k7,k8,k9,k10,k11,k12⟩:=g6_ ht
 show lawE Tryz.prog toldN4 100 20 β (fun _=>0) (cnOf 8 fun _=>slSe) (exSe a b) 9 [ssV a 0,ssV b 4] (mkS (ssR .look a++ssR .look b)) (outC 8 fun r q=> ∃m2,a6_ q m2∧ansE (bAns (i2_ a b)) r (mkS m2))
 refine(apk_ a b β _).mpr ?_
 try dsimp only
 have z1:a4_ Ms (Td.fr 12 a.ins.length a.cins fun i=>encL a.ins i)=a.ins:=lT_ _ _
 have z2:a4_ Ms (Td.fr 12 b.ins.length b.cins fun i=>encL b.ins i)=b.ins:=lT_ _ _
 have z3:a4_ Ms (Td.fr 12 a.out.length a.cout fun i=>encL a.out i)=a.out:=lT_ _ _
 have z4:a4_ Ms (Td.fr 12 b.out.length b.cout fun i=>encL b.out i)=b.out:=lT_ _ _
 simp only[Nat.zero_add,z1,z2,z3,z4]
 refine a0_ (fun _=>bL_ (by simp only[i2_, *,cond_true,cond_false])) (fun q1=>a0_ (fun _=>bL_ (by simp only[i2_, *,cond_true,cond_false])) (fun q2=>a0_ (fun q3=> ?_) (fun _=>bL_ (by simp only[i2_, *,cond_true,cond_false]))))
 refine nd_ (by simp) (nd_ (v9_ _ _) (nd_ (by simp) (nd_ (v9_ _ _) (a0_ (fun q=>bL_ ?_) (fun q4=> ?_)))))
 ·have q:(!(bys a.fb==bys b.fb))=true:=q
  simp only[i2_, *,cond_true,cond_false]
 have q4:(!(bys a.fb==bys b.fb))=false:=q4
 refine nd_ (by simp) (nd_ (by simp) (nd_ ?_ (a0_ (fun q=>bL_ ?_) (fun q5=> ?_))))
 ·show(okT Ms (tdL a.ins a.cins)&&okT Ms (tdL b.ins b.cins)&&true)=true
  rw[d0_ g4 g5 g6,d0_ k4 k5 k6];rfl
 ·simp only[i2_, *,cond_true,cond_false]
 refine nd_ (by simp) (nd_ (by simp) (nd_ ?_ (a0_ (fun q=>bL_ ?_) (fun q6=> ?_))))
 ·show(okT Ms (tdL a.out a.cout)&&okT Ms (tdL b.out b.cout)&&true)=true
  rw[d0_ g7 g8 g9,d0_ k7 k8 k9];rfl
 ·simp only[i2_, *,cond_true,cond_false]
 refine a0_ (fun _=>bL_ (by simp only[i2_, *,cond_true,cond_false])) (fun q7=>a0_ (fun _=>bL_ (by simp only[i2_, *,cond_true,cond_false])) (fun q8=> ?_))
 have h:a.sub.length=b.sub.length:=by
  have:=(bne_eq_false_iff_eq).1 q8
  exact Int.ofNat.inj this
 refine⟨ali_ hβ h g11 g10 k10,fun e=>bL_ ?_,fun e=>bL_ ?_⟩
 all_goals clear h
 ·simp only[i2_, *,cond_true,cond_false]
 ·simp only[i2_, *,cond_true,cond_false]
def ajz_:Told:=toldN4.tree 9 (okA2 (Sc Ss) (Sc Ss) fun _ _=>true) (t0_ (Sc Ss) (Sc Ss) fun a b=>bAns (i2_ a.x b.x))
theorem aeb_:a8_ Tryz.prog ajz_:=Told.tree_ok toldN4_ok alh_
theorem ahg_(x:Int):BitVec.ofInt 64 (IntKind.wrap .i64 x)=BitVec.ofInt 64 x:=by
 apply BitVec.eq_of_toNat_eq
 simp only[BitVec.toNat_ofInt]
 unfold IntKind.wrap
 simp[IntKind.signed,IntKind.bits]
 omega
theorem ang_(x y:Int)(h:(x-y)%18446744073709551616=0):IntKind.wrap .i64 x=IntKind.wrap .i64 y:=by
 unfold IntKind.wrap
 simp[IntKind.signed,IntKind.bits]
 omega
theorem aor_{a b:Nat}(hb:b<256):a*256|||b=a*256+b:=by
 have h:=Nat.two_pow_add_eq_or_of_lt (i:=8) (b:=b) (by omega) a
 rw[show 2^8*a=a*256 by omega]at h
 exact h.symm
theorem abL_{v b:Nat}(hb:b<256):IntKind.wrap .i64 (Int.ofNat (BitVec.toNat (BitVec.ofInt 64 (IntKind.wrap .i64 (IntKind.wrap .i64 (v:Int)*256))|||BitVec.ofInt 64 (b:Int))))=IntKind.wrap .i64 ((v*256+b:Nat):Int):=by
 have e1:BitVec.ofInt 64 (IntKind.wrap .i64 (IntKind.wrap .i64 (v:Int)*256))=BitVec.ofInt 64 ((v*256:Nat):Int):=by
  rw[ahg_]
  apply BitVec.eq_of_toNat_eq
  simp only[BitVec.toNat_ofInt]
  unfold IntKind.wrap
  simp[IntKind.signed,IntKind.bits]
  omega
 rw[e1]
 have e2:(BitVec.ofInt 64 ((v*256:Nat):Int)).toNat=(v%72057594037927936)*256:=by
  simp only[BitVec.toNat_ofInt]
  omega
 have e3:(BitVec.ofInt 64 (b:Int)).toNat=b:=by
  simp only[BitVec.toNat_ofInt]
  omega
 rw[BitVec.toNat_or,e2,e3,aor_ hb]
 apply ang_
 simp only[Int.ofNat_eq_natCast]
 omega
theorem abK_{b:Nat}(hb:b<256):IntKind.wrap .i64 (Int.ofNat (BitVec.toNat (BitVec.ofInt 64 (0:Int)|||BitVec.ofInt 64 (b:Int))))=IntKind.wrap .i64 ((0*256+b:Nat):Int):=by
 have:=abL_ (v:=0) hb
 rw[←this]
 rfl
def byA(L:List U8)(i:Nat):Nat:=(L.getD i Enc.dflt).v.toNat
def beN(L:List U8)(i:Nat):Nat→Nat
 |0=>0
 |k+1=>beN L i k*256+byA L (i+k)
def aau_:WayW:=fun E K=>outC E fun r l=> ∃l2,a6_ l l2∧K r (mkS l2)
theorem M8_:Z2_ aau_:=fun E β K e w' hE hB h=>(h.canon hE hB).objs
theorem b64{L:List U8}(h:L.all (okA U8)=true)(i:Nat):IntKind.wrap .i64 (U8.v (L.getD i Enc.dflt))=((byA L i:Nat):Int)∧byA L i<256:=by
 have h0:0≤(L.getD i Enc.dflt).v∧(L.getD i Enc.dflt).v<256:=by
  rcases Nat.lt_or_ge i L.length with hj|hj
  ·exact v8_ h hj
  ·have:L.getD i Enc.dflt=(Enc.dflt:U8):=by simp[List.getD,List.getElem?_eq_none hj]
   rw[this];exact⟨by show(0:Int)≤0;omega,by show(0:Int)<256;omega⟩
 unfold byA
 rw[w64 (by omega) (by omega)]
 omega
structure RdA where
 ok:Bool
 ret:AE
 i:Nat
 n:Nat
 c:Nat
 q:Bool
def rowN(o:Option AObj):Nat:=match o with
 |some (.row _ _ _ m _)=>m
 |_=>0
abbrev RdD:Type:=List Value→Option (List U8→Nat→Bool→RdA)
def rdS(L:List U8)(a:RdA)(i n c:Nat)(q:Bool)(b:Bool):Sp:=⟨b,viR L i n c q,a.ret,[.to (rdO a.i a.n a.c a.q),.same],[]⟩
def rdI(N n:Nat)(q:Bool):Nat:=cond q 0 (N-n)
def spRd(dec:RdD)(args:List Value)(objs:List (Option AObj)):Option SpT:=match args,objs with
 | .pointer (some ⟨0,0,none⟩)::xs,[some (.cells [.slice (some ⟨1,0,some i⟩) n c,.bool q] true 0),o1]=>match dec xs with
  |some F=>some (.one (rdS (rowL U8 (rowN o1) o1) (F (rowL U8 (rowN o1) o1) n q) i n c q (rowB U8 (rowN o1) 0 o1&&(rowL U8 (rowN o1) o1).all (okA U8)&&Nat.beq i (rdI (rowN o1) n q)&&Nat.ble n (rowN o1)&&(!q||Nat.beq n 0)&&Nat.ble c 1&&(F (rowL U8 (rowN o1) o1) n q).ok)))
  |none=>none
 |_,_=>none
theorem aeW_{P:Program}{g:FuncId}{dec:RdD}
  (h: ∀xs F (L:List U8) (n c:Nat) (q:Bool),dec xs=some F→L.all (okA U8)=true→L.length≤1000000→n≤L.length→(q=true→n=0)→c≤1→(F L n q).ok=true→ ∃(C:Told) (fuel k:Nat) (un:Nat→Nat) (lvs:Nat→List Nat) (ex:Nat→Kt→Prop),a8_ P C∧
   ∀β:Bs,β.X.length=2→ ∀K:AE→List (Option AObj)→Prop,(∀m,(m[0]? =some (some (rdO (F L n q).i (F L n q).n (F L n q).c (F L n q).q))∨((F L n q).i=0∧(F L n q).n=0∧(F L n q).c=1∧m[0]? =some (some (.cells [.slice none 0 0,.bool (F L n q).q] true 0))))→K (F L n q).ret m)→
    lawE P C fuel k β un (cnOf 2 lvs) ex g (.pointer (some ⟨0,0,none⟩)::xs) (mkS (viR L (rdI L.length n q) n c q)) (outC 2 K))
  (hr: ∀xs F L n q,dec xs=some F→bkE (lkAt 2 []) (F L n q).ret=(F L n q).ret):q2_ aau_ P g (pickS (spRd dec)):=by
 intro args objs s hs hb
 unfold pickS spRd at hs
 split at hs
 ·rename_i xs i n c q o1
  split at hs
  ·rename_i F hd
   simp only[Option.map_some,Option.some.injEq,SpT.pick]at hs
   subst hs
   have hb':=hb
   simp only[rdS,Bool.and_eq_true]at hb'
   obtain⟨⟨⟨⟨⟨⟨b1,b2⟩,b3⟩,b3'⟩,b3''⟩,b4⟩,b5⟩:=hb'
   have b3:=Nat.eq_of_beq_eq_true b3
   have b3':=Nat.le_of_ble_eq_true b3'
   have b4:=Nat.le_of_ble_eq_true b4
   have b3'':q=true→n=0:=fun hq=>by
    rw[hq]at b3''
    exact Nat.eq_of_beq_eq_true b3''
   obtain⟨l1,m1,c1,v1⟩:=N3_ b1
   refine⟨⟨rfl,fun j o h=> ?_⟩,?_⟩
   ·match j,h with
    |0,h=>cases h;exact⟨_,rfl,fun h=>h,fun _ _ _ h=>h⟩
    |1,h=>cases h;obtain⟨q,rfl,hq⟩:=v1;exact⟨q,rfl,(fun h=>by cases h),hq⟩
    |_+2,h=>simp[rdS,viR]at h
   generalize rowL U8 (rowN o1) o1=L at*
   rw[←l1]at b3 b3'
   subst b3
   obtain⟨C,fuel,kk,un,lvs,ex,hC,hl⟩:=h xs F L n c q hd b2 (by omega) b3' b3'' b4 b5
   refine⟨C,fuel,kk,un,lvs,ex,hC,fun β hβ=> ?_⟩
   refine hl β hβ _ fun m hm=> ?_
   have hm0: ∃o,m[0]? =some (some o)∧o.isOwn=true∧ ∀ρ s w,ObjR ρ o s w→ObjR ρ (rdO (F L n q).i (F L n q).n (F L n q).c (F L n q).q) s w:=by
    rcases hm with hm|⟨h1,h2,h3,hm⟩
    ·exact⟨_,hm,rfl,fun _ _ _ h=>h⟩
    ·refine⟨_,hm,rfl,fun _ _ _ h=> ?_⟩
     rw[h1,h2,h3]
     exact ObjR.nilCell (j:=0) (k:=1) rfl h
   obtain⟨o,ho,ho1,ho2⟩:=hm0
   have hlt:0<m.length:=(List.getElem?_eq_some_iff.1 ho).1
   refine⟨m.set 0 (some (rdO (F L n q).i (F L n q).n (F L n q).c (F L n q).q)),⟨by simp,fun j o2 e=> ?_⟩,[],rfl,List.nodup_nil,by simp,(hr xs F L n q hd).symm,fun j o h=> ?_,fun j x o h=>by simp[rdS]at h⟩
   ·by_cases hj:j=0
    ·subst hj
     rw[List.getElem?_set_self hlt]at e
     cases e
     exact⟨o,ho,ho1.trans rfl,ho2⟩
    ·rw[List.getElem?_set_ne (Ne.symm hj)]at e
     exact⟨o2,e,rfl,fun _ _ _ h=>h⟩
   ·match j,h with
    |0,h=>cases h;rw[b5_,List.getElem?_set_self hlt];rfl
    |1,h=>cases h
    |j+2,h=>simp[rdS]at h
  ·cases hs
 ·cases hs
def wN(L:List U8):Nat:=rowN (some (.row .look 1 0 (List.length L) (encL L)))
def wL(L:List U8):List U8:=rowL U8 (rowN (some (.row .look 1 0 (List.length L) (encL L)))) (some (.row .look 1 0 (List.length L) (encL L)))
def wB(L:List U8):Bool:=rowB U8 (rowN (some (.row .look 1 0 (List.length L) (encL L)))) 0 (some (.row .look 1 0 (List.length L) (encL L)))
theorem aoZ_(L:List U8):wL L=L:=c7_ L _ _ _ _
theorem aoY_(L:List U8):wN L=L.length:=rfl
theorem apa_{L:List U8}(h:L.all (okA U8)=true)(hl:L.length≤1000000):wB L=true:=N4_ .look rfl rfl h hl (by omega)
def bdK(k n:Nat)(q:Bool):Bool:=q||decide ((k:Int)>Int.ofNat n)
def vlK(k:Nat)(L:List U8)(n:Nat)(q:Bool):Int:=cond (bdK k n q) 0 (IntKind.wrap .i64 (beN L (L.length-n) k:Nat))
def iK(k N n:Nat)(q:Bool):Nat:=rdI N (n-k) (bdK k n q)
def cK(k n:Nat)(q:Bool):Nat:=cond (bdK k n q) 1 0
def numA(k:Nat)(L:List U8)(n:Nat)(q:Bool):RdA:=⟨true,.returned (.int .i64 (vlK k L n q)),iK k L.length n q,n-k,cK k n q,bdK k n q⟩
def deK:RdD:=fun xs=>match xs with
 |[.int .i64 k]=>cond (k==1) (some (numA 1)) (cond (k==2) (some (numA 2)) (cond (k==4) (some (numA 4)) (cond (k==8) (some (numA 8)) none)))
 |_=>none
theorem abA_{k:Nat}{L:List U8}{n c:Nat}{q:Bool}{K:AE→List (Option AObj)→Prop}{x:Int}{m1 m2:List (Option AObj)}(hk:0<k)(hx:x=IntKind.wrap .i64 (beN L (rdI L.length n q) k:Nat))(hn:n≤L.length)(hq0:q=true→n=0)
  (h1:m1[0]? =some (some (.cells [.slice none 0 0,.bool true] true 0))) (h2:m2[0]? =some (some (rdO (rdI L.length n q+k) (n-k) (cond (Nat.beq n 0) c 0) q)))
  (hK: ∀m,(m[0]? =some (some (rdO (numA k L n q).i (numA k L n q).n (numA k L n q).c (numA k L n q).q))∨((numA k L n q).i=0∧(numA k L n q).n=0∧(numA k L n q).c=1∧m[0]? =some (some (.cells [.slice none 0 0,.bool (numA k L n q).q] true 0))))→K (numA k L n q).ret m)
  {N:Prop} (hN:q=false→k≤n→K (.returned (.int .i64 x)) m2→N):br q (K (.returned (.int .i64 0)) m1) (br (decide ((k:Int)>Int.ofNat n)) (K (.returned (.int .i64 0)) m1) N):=by
 unfold numA vlK iK cK bdK at hK
 refine a0_ (fun hq=> ?_) (fun hq=>a0_ (fun hd=> ?_) (fun hd=> ?_))
 ·have:=hq0 hq
  subst this
  rw[hq]at hK
  exact hK _ (.inr ⟨rfl,by show 0-k=0;omega,rfl,h1⟩)
 ·rw[hq,hd]at hK
  have hd:=of_decide_eq_true hd
  simp only[Int.ofNat_eq_natCast]at hd
  exact hK _ (.inr ⟨rfl,by show n-k=0;omega,rfl,h1⟩)
 ·rw[hq,hd]at hK
  have hd:=of_decide_eq_false hd
  simp only[Int.ofNat_eq_natCast]at hd
  have e1:rdI L.length n q=L.length-n:=by rw[hq];rfl
  rw[e1]at hx h2
  subst hx
  refine hN hq (by omega) (hK _ (.inl ?_))
  rw[h2,hq,b8_ (show n≠0 by omega)]
  have e2:L.length-n+k=L.length-(n-k):=by omega
  rw[e2];rfl
theorem byOk{N n j:Nat}{q:Bool}(hq:q=false)(hn:n≤N)(hj:j<n):(Nat.ble 0 (rdI N n q+j)&&Nat.blt (rdI N n q+j) N)=true:=by
 subst hq
 show(Nat.ble 0 (N-n+j)&&Nat.blt (N-n+j) N)=true
 simp;omega
theorem aiV_{N n:Nat}{q:Bool}(hq:q=false)(hn:n≤N)(hj:0<n):(Nat.ble 0 (rdI N n q)&&Nat.blt (rdI N n q) N)=true:=byOk (j:=0) hq hn hj
theorem afu_:q2_ aau_ Tryz.prog 63 (pickS (spRd deK)):=by
 refine aeW_ (fun xs F L n c q hd hL hl hn hq0 hc hok=> ?_) (fun xs F L n q hd=> ?_)
 ·unfold deK at hd
  split at hd
  ·rename_i k
   have hb:=fun j=>(b64 hL j).2
   have hv:=fun j=>(b64 hL j).1
   have main: ∀(k:Nat),F=numA k→0<k→(∀β:Bs,∀K:AE→List (Option AObj)→Prop,(∀m,(m[0]? =some (some (rdO (numA k L n q).i (numA k L n q).n (numA k L n q).c (numA k L n q).q))∨((numA k L n q).i=0∧(numA k L n q).n=0∧(numA k L n q).c=1∧m[0]? =some (some (.cells [.slice none 0 0,.bool (numA k L n q).q] true 0))))→K (numA k L n q).ret m)→
     lawE Tryz.prog toldM6 100 20 β (fun _=>9) (cnOf 2 fun _=>[]) (fun _ _=>False) 63 [.pointer (some ⟨0,0,none⟩),.int .i64 (k:Int)] (mkS (viR L (rdI L.length n q) n c q)) (outC 2 K))→
     ∃(C:Told) (fuel kk:Nat) (un:Nat→Nat) (lvs:Nat→List Nat) (ex:Nat→Kt→Prop),a8_ Tryz.prog C∧
   ∀β:Bs,β.X.length=2→ ∀K:AE→List (Option AObj)→Prop,(∀m,(m[0]? =some (some (rdO (F L n q).i (F L n q).n (F L n q).c (F L n q).q))∨((F L n q).i=0∧(F L n q).n=0∧(F L n q).c=1∧m[0]? =some (some (.cells [.slice none 0 0,.bool (F L n q).q] true 0))))→K (F L n q).ret m)→
    lawE Tryz.prog C fuel kk β un (cnOf 2 lvs) ex 63 [.pointer (some ⟨0,0,none⟩),.int .i64 (k:Int)] (mkS (viR L (rdI L.length n q) n c q)) (outC 2 K):=fun k hF hk h=>⟨toldM6,100,20,fun _=>9,fun _=>[],fun _ _=>False,toldM6_ok,fun β _ K hK=>by subst hF;exact h β K hK⟩
   cases h1:(k==1)with
   |true=>
    rw[h1]at hd
    have hk:=eq_of_beq h1
    subst hk
    have hF:F=numA 1:=by cases hd;rfl
    refine main 1 hF (by omega) fun β K hK=>(anx_ L (rdI L.length n q) n c q β K).mpr ?_
    simp only[Nat.add_zero,hv,abK_ (hb _)]
    exact abA_ (k:=1) (by omega) rfl hn hq0 rfl rfl hK fun hq hkn hK=>nd_ (by simpa using hkn) (nd_ (by simpa using hkn) (nd_ (aiV_ hq hn (by omega)) hK))
   |false=>
    rw[h1]at hd
    cases h2:(k==2)with
    |true=>
     rw[h2]at hd
     have hk:=eq_of_beq h2
     subst hk
     have hF:F=numA 2:=by cases hd;rfl
     refine main 2 hF (by omega) fun β K hK=>(anw_ L (rdI L.length n q) n c q β K).mpr ?_
     simp only[Nat.add_zero,hv,abK_ (hb _),abL_ (hb _)]
     exact abA_ (k:=2) (by omega) rfl hn hq0 rfl rfl hK fun hq hkn hK=>nd_ (by simpa using hkn) (nd_ (by simpa using hkn) (nd_ (aiV_ hq hn (by omega)) (nd_ (byOk hq hn (by omega)) hK)))
    |false=>
     rw[h2]at hd
     cases h4:(k==4)with
     |true=>
      rw[h4]at hd
      have hk:=eq_of_beq h4
      subst hk
      have hF:F=numA 4:=by cases hd;rfl
      refine main 4 hF (by omega) fun β K hK=>(anv_ L (rdI L.length n q) n c q β K).mpr ?_
      simp only[Nat.add_zero,hv,abK_ (hb _),abL_ (hb _)]
      exact abA_ (k:=4) (by omega) rfl hn hq0 rfl rfl hK fun hq hkn hK=>nd_ (by simpa using hkn) (nd_ (by simpa using hkn) (nd_ (aiV_ hq hn (by omega)) (nd_ (byOk hq hn (by omega)) (nd_ (byOk hq hn (by omega)) (nd_ (byOk hq hn (by omega)) hK)))))
     |false=>
      rw[h4]at hd
      cases h8:(k==8)with
      |true=>
       rw[h8]at hd
       have hk:=eq_of_beq h8
       subst hk
       have hF:F=numA 8:=by cases hd;rfl
       refine main 8 hF (by omega) fun β K hK=>(anu_ L (rdI L.length n q) n c q β K).mpr ?_
       simp only[Nat.add_zero,hv,abK_ (hb _),abL_ (hb _)]
       exact abA_ (k:=8) (by omega) rfl hn hq0 rfl rfl hK fun hq hkn hK=>nd_ (by simpa using hkn) (nd_ (by simpa using hkn) (nd_ (aiV_ hq hn (by omega)) (nd_ (byOk hq hn (by omega)) (nd_ (byOk hq hn (by omega)) (nd_ (byOk hq hn (by omega)) (nd_ (byOk hq hn (by omega)) (nd_ (byOk hq hn (by omega)) (nd_ (byOk hq hn (by omega)) (nd_ (byOk hq hn (by omega)) hK)))))))))
      |false=>rw[h8]at hd;cases hd
  ·cases hd
 ·unfold deK at hd
  split at hd
  ·rename_i k
   have hk: ∃kk,F=numA kk:=by
    revert hd
    cases(k==1)<;>cases(k==2)<;>cases(k==4)<;>cases(k==8)<;>intro hd<;>first|exact⟨_,(Option.some.inj hd).symm⟩|cases hd
   obtain⟨kk,rfl⟩:=hk
   rfl
  ·cases hd
def abp_:Told:=ajz_.effT 63 (spRd deK)
theorem S2_:a8_ Tryz.prog abp_:=Told.effT_okG M8_ follows aeb_ afu_
theorem apm_(L:List U8)(n c:Nat)(q:Bool)(β:Bs)(K:AE→List (Option AObj)→Prop):lawE Tryz.prog abp_ 100 20 β (fun _=>0) (cnOf 2 fun _=>[]) (fun _ _=>False) 64 [.pointer (some ⟨0,0,none⟩)] (mkS (viR L (rdI L.length n q) n c q)) (outC 2 K)=
 (fun(z1:AObj) (z4:Nat) (z5 z6:Int)=>((fun(z0:Bool) (z2:List (Option AObj)) (z3:AE)=>(need (wB L&&List.all (wL L) (okA U8)&&Nat.beq (rdI L.length n q) (rdI (wN L) n q)&&Nat.ble n (wN L)&&(!q||Nat.beq n 0)&&Nat.ble c 1&&true) (br (vlK 1 (wL L) n q==(0:Int)) (K z3 [some (.cells [.slice (some (Addr.mk 1 0 (some (iK 1 z4 n q)))) (n-1) (cK 1 n q),.bool (bdK 1 n q)] true 0),some z1]) (br (vlK 1 (wL L) n q==(1:Int)) (need z0 (K (.returned (Value.agg (Array.mk [Value.int .i64 z5,Value.int .i64 (vlK 1 (wL L) (n-1) (bdK 1 n q)),Value.float .f64 0]))) [some (.cells [.slice (some (Addr.mk 1 0 (some (iK 1 z4 (n-1) (bdK 1 n q))))) (n-1-1) (cK 1 (n-1) (bdK 1 n q)),.bool (bdK 1 (n-1) (bdK 1 n q))] true 0),some z1])) (br (vlK 1 (wL L) n q==(2:Int)) (need z0 (K (.returned (Value.agg (Array.mk [Value.int .i64 z5,Value.int .i64 (IntKind.wrap .i64 (IntKind.wrap .i16 (vlK 2 (wL L) (n-1) (bdK 1 n q)))),Value.float .f64 0]))) [some (.cells [.slice (some (Addr.mk 1 0 (some (iK 2 z4 (n-1) (bdK 1 n q))))) (n-1-2) (cK 2 (n-1) (bdK 1 n q)),.bool (bdK 2 (n-1) (bdK 1 n q))] true 0),some z1])) (br (vlK 1 (wL L) n q==(3:Int)) (need z0 (K (.returned (Value.agg (Array.mk [Value.int .i64 z5,Value.int .i64 (IntKind.wrap .i64 (IntKind.wrap .i32 (vlK 4 (wL L) (n-1) (bdK 1 n q)))),Value.float .f64 0]))) [some (.cells [.slice (some (Addr.mk 1 0 (some (iK 4 z4 (n-1) (bdK 1 n q))))) (n-1-4) (cK 4 (n-1) (bdK 1 n q)),.bool (bdK 4 (n-1) (bdK 1 n q))] true 0),some z1])) (br (vlK 1 (wL L) n q==(4:Int)) (need z0 (K (.returned (Value.agg (Array.mk [Value.int .i64 z5,Value.int .i64 z6,Value.float .f64 0]))) z2)) (br (vlK 1 (wL L) n q==(5:Int)) (need z0 (K (.returned (Value.agg (Array.mk [Value.int .i64 z5,Value.int .i64 (0:Int),Value.float .f64 (Int.toNat (IntKind.wrap .u64 z6))]))) z2)) (K z3 [some (.cells [.slice none 0 0,.bool true] true 0),some z1]))))))))) (wB L&&List.all (wL L) (okA U8)&&Nat.beq (iK 1 z4 n q) (rdI (wN L) (n-1) (bdK 1 n q))&&Nat.ble (n-1) (wN L)&&(!bdK 1 n q||Nat.beq (n-1) 0)&&Nat.ble (cK 1 n q) 1&&true) [some (.cells [.slice (some (Addr.mk 1 0 (some (iK 8 z4 (n-1) (bdK 1 n q))))) (n-1-8) (cK 8 (n-1) (bdK 1 n q)),.bool (bdK 8 (n-1) (bdK 1 n q))] true 0),some z1] (.returned (Value.agg (Array.mk [Value.int .i64 z5,Value.int .i64 (0:Int),Value.float .f64 0]))))) (.row .look 1 0 L.length (encL L)) (List.length (wL L)) (vlK 1 (wL L) n q) (vlK 8 (wL L) (n-1) (bdK 1 n q)):=by kernel_rfl
structure RT where
 n:Nat
 q:Bool
def RT.nx(k:Nat)(s:RT):RT:=⟨s.n-k,bdK k s.n s.q⟩
def RT.no:RT:=⟨0,true⟩
def RT.vl(k:Nat)(L:List U8)(s:RT):Int:=vlK k L s.n s.q
structure RtOk (N:Nat) (s:RT):Prop where
 le:s.n≤N
 z:s.q=true→s.n=0
theorem RtOk.nx{N:Nat}{s:RT}(h:RtOk N s){k:Nat}:RtOk N (s.nx k):=⟨by show s.n-k≤N;have:=h.le;omega,fun hq=>by
 have hq:(s.q||decide ((k:Int)>Int.ofNat s.n))=true:=hq
 rw[Bool.or_eq_true]at hq
 show s.n-k=0
 rcases hq with hq|hq
 ·have:=h.z hq;omega
 ·have:=of_decide_eq_true hq
  simp only[Int.ofNat_eq_natCast]at this
  omega⟩
theorem RtOk.no{N:Nat}:RtOk N RT.no:=⟨Nat.zero_le _,fun _=>rfl⟩
def rvK(L:List U8)(s:RT):Int:=s.vl 1 L
def rvI(L:List U8)(s:RT):Int:=cond (rvK L s==0) 0 (cond (rvK L s==1) ((s.nx 1).vl 1 L) (cond (rvK L s==2) (IntKind.wrap .i64 (IntKind.wrap .i16 ((s.nx 1).vl 2 L))) (cond (rvK L s==3) (IntKind.wrap .i64 (IntKind.wrap .i32 ((s.nx 1).vl 4 L))) (cond (rvK L s==4) ((s.nx 1).vl 8 L) 0))))
def rvG(L:List U8)(s:RT):Nat:=cond (rvK L s==0) 0 (cond (rvK L s==1) 0 (cond (rvK L s==2) 0 (cond (rvK L s==3) 0 (cond (rvK L s==4) 0 (cond (rvK L s==5) (Int.toNat (IntKind.wrap .u64 ((s.nx 1).vl 8 L))) 0)))))
def rvS(L:List U8)(s:RT):RT:=cond (rvK L s==0) (s.nx 1) (cond (rvK L s==1) ((s.nx 1).nx 1) (cond (rvK L s==2) ((s.nx 1).nx 2) (cond (rvK L s==3) ((s.nx 1).nx 4) (cond (rvK L s==4) ((s.nx 1).nx 8) (cond (rvK L s==5) ((s.nx 1).nx 8) RT.no)))))
theorem RtOk.rvS{N:Nat}{L:List U8}{s:RT}(h:RtOk N s):RtOk N (rvS L s):=by
 unfold Ev.rvS
 cases rvK L s==0 with
 |true=>exact h.nx
 |false=>
 cases rvK L s==1 with
 |true=>exact h.nx.nx
 |false=>
 cases rvK L s==2 with
 |true=>exact h.nx.nx
 |false=>
 cases rvK L s==3 with
 |true=>exact h.nx.nx
 |false=>
 cases rvK L s==4 with
 |true=>exact h.nx.nx
 |false=>
 cases rvK L s==5 with
 |true=>exact h.nx.nx
 |false=>exact RtOk.no
def valA(L:List U8)(n:Nat)(q:Bool):RdA:=⟨true,.returned (.agg ⟨[.int .i64 (rvK L ⟨n,q⟩),.int .i64 (rvI L ⟨n,q⟩),.float .f64 (rvG L ⟨n,q⟩)]⟩),rdI L.length (rvS L ⟨n,q⟩).n (rvS L ⟨n,q⟩).q,(rvS L ⟨n,q⟩).n,cond (rvS L ⟨n,q⟩).q 1 0,(rvS L ⟨n,q⟩).q⟩
def deV:RdD:=fun xs=>match xs with
 |[]=>some valA
 |_=>none
theorem ajM_{L:List U8}{s:RT}{c i:Nat}(hL:L.all (okA U8)=true)(hl:L.length≤1000000)(hs:RtOk L.length s)(hc:c≤1)(hi:i=rdI L.length s.n s.q):(wB L&&List.all L (okA U8)&&Nat.beq i (rdI (wN L) s.n s.q)&&Nat.ble s.n (wN L)&&(!s.q||Nat.beq s.n 0)&&Nat.ble c 1&&true)=true:=by
 rw[apa_ hL hl,hL,aoY_,hi,Nat.beq_refl,Nat.ble_eq_true_of_le hs.le,Nat.ble_eq_true_of_le hc]
 cases hq:s.q with
 |false=>rfl
 |true=>rw[hs.z hq];rfl
theorem c1_(b:Bool):cond b 1 0≤1:=by cases b<;>decide
theorem adT_:q2_ aau_ Tryz.prog 64 (pickS (spRd deV)):=by
 refine aeW_ (fun xs F L n c q hd hL hl hn hq0 hc hok=> ?_) (fun xs F L n q hd=> ?_)
 ·unfold deV at hd
  split at hd
  ·cases hd
   refine⟨abp_,100,20,fun _=>0,fun _=>[],fun _ _=>False,S2_,fun β _ K hK=>(apm_ L n c q β K).mpr ?_⟩
   have h0:RtOk L.length ⟨n,q⟩:=⟨hn,hq0⟩
   have hn0:=ajM_ (s:=⟨n,q⟩) hL hl h0 hc rfl
   have hn1:=ajM_ (s:=(⟨n,q⟩:RT).nx 1) (i:=iK 1 L.length n q) hL hl h0.nx (c:=cK 1 n q) (c1_ _) rfl
   rw[aoZ_]
   have hK: ∀m,(m[0]? =some (some (rdO (rdI L.length (rvS L ⟨n,q⟩).n (rvS L ⟨n,q⟩).q) (rvS L ⟨n,q⟩).n (cond (rvS L ⟨n,q⟩).q 1 0) (rvS L ⟨n,q⟩).q))∨(rdI L.length (rvS L ⟨n,q⟩).n (rvS L ⟨n,q⟩).q=0∧(rvS L ⟨n,q⟩).n=0∧cond (rvS L ⟨n,q⟩).q 1 0=1∧m[0]? =some (some (.cells [.slice none 0 0,.bool (rvS L ⟨n,q⟩).q] true 0))))→K (.returned (.agg ⟨[.int .i64 (rvK L ⟨n,q⟩),.int .i64 (rvI L ⟨n,q⟩),.float .f64 (rvG L ⟨n,q⟩)]⟩)) m:=hK
   have hkk:rvK L ⟨n,q⟩=vlK 1 L n q:=rfl
   unfold rvS rvI rvG at hK
   rw[hkk]at hK
   refine nd_ hn0 (a0_ (fun h0=> ?_) (fun h0=>a0_ (fun h1=>nd_ hn1 ?_) (fun h1=>a0_ (fun h2=>nd_ hn1 ?_) (fun h2=>a0_ (fun h3=>nd_ hn1 ?_) (fun h3=>a0_ (fun h4=>nd_ hn1 ?_) (fun h4=>a0_ (fun h5=>nd_ hn1 ?_) (fun h5=> ?_)))))))
   all_goals simp only[*,cond_true,cond_false]at hK
   ·exact hK _ (.inl rfl)
   ·exact hK _ (.inl rfl)
   ·exact hK _ (.inl rfl)
   ·exact hK _ (.inl rfl)
   ·exact hK _ (.inl rfl)
   ·exact hK _ (.inl rfl)
   ·exact hK _ (.inr ⟨rfl,rfl,rfl,rfl⟩)
  ·cases hd
 ·unfold deV at hd
  split at hd
  ·cases hd;rfl
  ·cases hd
def toldR2:Told:=abp_.effT 64 (spRd deV)
theorem toldR2_ok:a8_ Tryz.prog toldR2:=Told.effT_okG M8_ follows S2_ adT_
end Go.Proofs.YtachglcffimmeaaGreat.Ev
