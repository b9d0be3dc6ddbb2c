/-
  What has to hold: printed by the evaluator.
-/
import Derived.Test.YtachglcffimmeaaGreatR25
import Derived.Test.YtachglcffimmeaaGreatR18
import Derived.Test.YtachglcffimmeaaGreatR23
set_option linter.unusedVariables false
set_option maxRecDepth 1000000
set_option linter.unusedSimpArgs false
section
namespace Go.Proofs.YtachglcffimmeaaGreat.Ev
open Go Go.Proofs Go.RowKit
def SMd2(l:List U8)(c:Nat)(n se:Int)(ins out:List Ms):ASt:=mkS [some (rowO .look l),some (.cells (ssCs zSs nilV nilV nilV nilV) true 0),some (pkQ l.length c n),some (.cells (ssCs (sSs se) nilV (.slice (some ⟨4,0,some 0⟩) ins.length 1) (.slice (some ⟨5,0,some 0⟩) out.length 1) nilV) true 0),some (rowO .mine ins),some (rowO .mine out)]
theorem ahp_(l:List U8)(c:Nat)(n se i:Int)(ins out:List Ms)(β:Bs)(Nx:Kt):c0_ Tryz.prog toldM6 100 20 β (fun _=>0) (cnOf 1 slMd) (fun _ _=>False) 7 2 1 (lvMd 2) (FMd 6 i) (SMd2 l c n se ins out) Nx=
 (fun(z1:AObj) (z2:Value) (z4:Bool) (z7 z9 z10 z11:Nat) (z8:Int×Int)=>((fun(z0:Vl×Int) (z3:Bool) (z5 z6:AObj)=>(br (decide (i>(0:Int))) (need z4 (need z4 (need z3 (need z3 (need (Nat.ble z9 1000000) (need (true&&Nat.ble (0+List.length out) z7) (Nx .normal (mkF 87 [(2,.pointer (some ⟨1,0,none⟩)),(3,.pointer (some ⟨2,0,none⟩)),(4,.pointer (some ⟨3,0,none⟩)),(6,.int .i64 (IntKind.wrap .i64 (i-(1:Int))))]) (mkS [some z6,some z1,some (.cells [.slice (some ⟨0,0,some 0⟩) z11 c,.int .i64 (Prod.snd z0)] true 0),some (.cells [.bool true,.int .i64 se,.slice none 0 0,.bool false,.slice (some ⟨4,0,some 0⟩) z10 1,.slice (some ⟨5,0,some 0⟩) z9 1,.slice none 0 0,.int .i64 (0:Int)] true 0),some z5,some (.row .mine 12 0 z9 fun j k=>mrgT (Nat.blt j z7) (encL out (0+j) k) (selT 12 1 [.sc (.int .i64 (6:Int)),.sc (.int .i64 i),.sc z2,.sc z2,.sc z2,.sc (.bool false),.sc z2,.sc z2,.sc z2,.sc (.float .f64 0),.fr 0 0 1 noT,.fr 3 1 0 (selT 3 1 [.sc (.int .i64 (Vl.k (Prod.fst z0))),.sc (.int .i64 (Vl.i (Prod.fst z0))),.sc (.float .f64 (Vl.f (Prod.fst z0)))])] (j-List.length out) k))])))))))) (Nx (.exit 2) (mkF 87 [(2,.pointer (some ⟨1,0,none⟩)),(3,.pointer (some ⟨2,0,none⟩)),(4,.pointer (some ⟨3,0,none⟩)),(6,.int .i64 i)]) (mkS [some z6,some z1,some (.cells [.slice (some ⟨0,0,some 0⟩) z11 c,.int .i64 n] true 0),some (.cells [.bool true,.int .i64 se,.slice none 0 0,.bool false,.slice (some ⟨4,0,some 0⟩) z10 1,.slice (some ⟨5,0,some 0⟩) z7 1,.slice none 0 0,.int .i64 (0:Int)] true 0),some z5,some (.row .mine 12 0 z7 (encL out))])))) (pvF (Lr l) (Prod.snd z8) (IntKind.wrap .i64 ((1:Int)+Prod.fst z8))) (Br l c&&List.all (Lr l) (okA U8)&&decide ((0:Int)≤Prod.snd z8)&&true) (.row .mine 12 0 z10 (encL ins)) (.row .look 1 0 z11 (encL l)))) (.cells [.bool false,.int .i64 (0:Int),.slice none 0 0,.bool false,.slice none 0 0,.slice none 0 0,.slice none 0 0,.int .i64 (0:Int)] true 0) (.int .i64 (0:Int)) (Br l c&&List.all (Lr l) (okA U8)&&decide ((0:Int)≤n)&&true) out.length (List.length out+1) ins.length l.length (numF (Lr l) n (5:Int)):=by kernel_rfl
end Go.Proofs.YtachglcffimmeaaGreat.Ev
end
section
namespace Go.Proofs.YtachglcffimmeaaGreat.Ev
open Go Go.RowKit
def LkT(t u:Td):Prop:= ∀(w:World) (F:Nat→Prop) (y:Value),(TR w F (mrgT true t u) y→TR w F t y)∧(TR w F (mrgT false t u) y→TR w F u y)
def ToT(t u:Td):Prop:= ∀(w:World) (F:Nat→Prop) (y:Value),TR w F t y→TR w F u y
theorem LkT.of_eq{t u:Td}(h1:mrgT true t u=t)(h2:mrgT false t u=u):LkT t u:=fun w F y=>⟨fun h=>by rw[h1]at h;exact h,fun h=>by rw[h2]at h;exact h⟩
theorem LkT.bad(t:Td):LkT t (.sc bad0):=by
 cases t with
 |sc x=>exact LkT.of_eq (by cases x<;>rfl) (by cases x<;>rfl)
 |fr=>exact LkT.of_eq rfl rfl
theorem LkT.nil{es n c:Nat}{e:Nat→Nat→Td}(h0:es≠0):LkT (.fr es n c e) (.fr 0 0 1 noT):=by
 have hs:g0_ es n 0 0=true:=by simp[g0_]
 intro w F y
 simp only[mrgT,hs,cond_true,b8_ h0,cond_false]
 refine⟨fun h=>h.congr fun i hi j hj z hz=> ?_,fun h=> ?_⟩
 ·exact(LkT.bad (e i j) w F z).1 hz
 ·rcases h with h|h|h
  ·exact .inl h
  ·exact absurd h.2.1 (by decide)
  ·exact absurd h.1 (by decide)
theorem LkT.fr{es n c n' c':Nat}{e e':Nat→Nat→Td}(h0:es≠0)(h: ∀i j,j<es→LkT (e i j) (e' i j)):LkT (.fr es n c e) (.fr es n' c' e'):=by
 have hs:g0_ es n es n'=true:=by simp[g0_,Nat.beq_refl]
 intro w F y
 simp only[mrgT,hs,cond_true,b8_ h0,cond_false]
 exact⟨fun q=>q.congr fun i hi j hj z hz=>(h i j hj w F z).1 hz,fun q=>q.congr fun i hi j hj z hz=>(h i j hj w F z).2 hz⟩
theorem LkT.enc{α:Type}[Enc α](a b:α){j:Nat}(hj:j<Enc.es α):LkT (Enc.enc a j) (Enc.enc b j):=fun w F y=>Enc.mrg a b w F j y hj
theorem ToT.nil{es c:Nat}{e:Nat→Nat→Td}(h:c=1):ToT (.fr 0 0 1 noT) (.fr es 0 c e):=by
 subst h
 intro w F y h
 rcases h with h|h|h
 ·exact .inl h
 ·exact absurd h.2.1 (by decide)
 ·exact absurd h.1 (by decide)
theorem ToT.fr{es n c:Nat}{e e':Nat→Nat→Td}(h: ∀i,i<n→ ∀j,j<es→ToT (e i j) (e' i j)):ToT (.fr es n c e) (.fr es n c e'):=fun w F y ht=>ht.congr fun i hi j hj z hz=>h i hi j hj w F z hz
theorem ToT.eq{t u:Td}(h:t=u):ToT t u:=fun w F y ht=>by rw[←h];exact ht
theorem ahS_{α:Type}[Enc α]{k:Rk}{l:List α}{a:α}{ts:List Td}{es n:Nat}{g:Nat→Nat→Td}{ρ:Rho}{s:Spot}{w:World}(hes:es=Enc.es α)(hn:n=l.length)(hg: ∀i j,g i j=encL l i j)(h: ∀j,j<Enc.es α→ToT (nthT ts j) (Enc.enc a j))(hl: ∀(b:α) j,j<Enc.es α→LkT (Enc.enc b j) (nthT ts j))
  (ho:ObjR ρ (.row k es 0 (n+1) fun i j=>mrgT (Nat.blt i n) (g (0+i) j) (selT es 1 ts (i-n) j)) s w):ObjR ρ (.row k (Enc.es α) 0 (l++[a]).length (encL (l++[a]))) s w:=by
 subst hes hn
 refine ho.row_TR (by simp) fun i _ hi j hj F y ht=> ?_
 have e1:selT (Enc.es α) 1 ts (i-l.length) j=nthT ts j:=rfl
 rw[e1,hg,Nat.zero_add]at ht
 by_cases hil:i<l.length
 ·have hb:Nat.blt i l.length=true:=by simpa using hil
  rw[hb]at ht
  show TR w F (Enc.enc ((l++[a]).getD i Enc.dflt) j) y
  rw[G4_ _ _ _ hil]
  exact(hl _ j hj w F y).1 ht
 ·rw[m2_ hil]at ht
  have:i=l.length:=by omega
  subst this
  show TR w F (Enc.enc ((l++[a]).getD l.length Enc.dflt) j) y
  rw[G5_ _ _ _ (Nat.le_refl _),Nat.sub_self]
  exact h j hj w F y ((hl _ j hj w F y).2 ht)
end Go.Proofs.YtachglcffimmeaaGreat.Ev
end
section
namespace Go.Proofs.YtachglcffimmeaaGreat.Ev
open Go Go.Proofs Go.RowKit
def anV(l:List U8)(n:Int):Vl×Int:=pvF l (numF l n 5).2 (1+(numF l n 5).1)
def anM(l:List U8)(id n:Int):Ms:=⟨6,id,0,0,0,false,0,⟨0,0,0⟩,[],1,[(anV l n).1],0⟩
def anT(l:List U8)(id n:Int):List Td:=[Td.sc (.int .i64 6),Td.sc (.int .i64 id),Td.sc (.int .i64 0),Td.sc (.int .i64 0),Td.sc (.int .i64 0),Td.sc (.bool false),Td.sc (.int .i64 0),Td.sc (.int .i64 0),Td.sc (.int .i64 0),Td.sc (.float .f64 0),Td.fr 0 0 1 noT,Td.fr 3 1 0 (selT 3 1 [Td.sc (.int .i64 (anV l n).1.k),Td.sc (.int .i64 (anV l n).1.i),Td.sc (.float .f64 (anV l n).1.f)])]
theorem aoT_(l:List U8)(id n:Int):ToT (nthT (anT l id n) 11) (Enc.enc (anM l id n) 11):=by
 refine ToT.fr fun i hi j hj=> ?_
 have hi0:i=0:=by omega
 subst hi0
 match j,hj with
 |0,_=>exact ToT.eq rfl
 |1,_=>exact ToT.eq rfl
 |2,_=>exact ToT.eq rfl
theorem aoS_(l:List U8)(id n:Int)(b:Ms):LkT (Enc.enc b 11) (nthT (anT l id n) 11):=by
 refine LkT.fr (by decide) fun i j hj=> ?_
 have hj:j<3:=hj
 match j,hj with
 |0,_=>exact LkT.enc (b.vs.getD i Enc.dflt) (anV l n).1 (j:=0) (by decide)
 |1,_=>exact LkT.enc (b.vs.getD i Enc.dflt) (anV l n).1 (j:=1) (by decide)
 |2,_=>exact LkT.enc (b.vs.getD i Enc.dflt) (anV l n).1 (j:=2) (by decide)
def ouL(l:List U8):Nat→Int→List Ms→List Ms×Int
 |0,n,out=>(out,n)
 |r+1,n,out=>ouL l r (anV l n).2 (out++[anM l ((r+1:Nat):Int) n])
theorem acv_{l:List U8}{n:Int}(hp:PkOk l n):PkOk l (anV l n).2:=afe_ _ (nF_ (m:=5) hp (by omega)).2.2
def aqg_(l:List U8)(c:Nat)(se:Int)(ins:List Ms)(r:Nat)(n:Int):Nat→Kt→Prop:=fun b K=>K (.exit b) (FMd 6 0) (SMd2 l c (ouL l r n []).2 se ins (ouL l r n []).1)
def IMd2(l:List U8)(r0:Nat)(n0:Int)(p:PM1):Prop:=PkOk l p.n∧p.ins.length+p.r≤100∧ouL l p.r p.n p.ins=ouL l r0 n0 []
theorem aiz_{l:List U8}{c:Nat}{se:Int}{ins:List Ms}{β:Bs}(hβ:β.X.length=1)(hc:c≤1){ex:Nat→Kt→Prop}{r0:Nat}{n0:Int}(hex: ∀K,ex 2 K→aqg_ l c se ins r0 n0 2 K)(hr:r0≤50)(hp:PkOk l n0):
  LoopJ Tryz.prog β ex 2 (a5_ Tryz.prog 7 2) (FMd 6 (r0:Nat)) (SMd2 l c n0 se ins []):=by
 refine b2_ (IMd2 l r0 n0) (fun p:PM1=>FMd 6 (p.r:Nat)) (fun p:PM1=>SMd2 l c p.n se ins p.ins) (fun p:PM1=>p.r) (fun p hI K hK=> ?_) ⟨r0,n0,[]⟩ ⟨hp,by show 0+r0≤100;omega,rfl⟩
 have hK:K (.exit 2) (FMd 6 0) (SMd2 l c (ouL l r0 n0 []).2 se ins (ouL l r0 n0 []).1):=hex K hK
 show J _ β _ _ _ (Nn β (IMd2 l r0 n0) (fun p:PM1=>p.r) (fun p:PM1=>FMd 6 (p.r:Nat)) (fun p:PM1=>SMd2 l c p.n se ins p.ins) p K)
 obtain⟨h1,h2,h3⟩:=hI
 refine rJ_ (E:=1) (lvs:=slMd) (un:=fun _=>0) (fuel:=100) (n:=20) (ex:=fun _ _=>False) follows toldM6_ok hβ (lv:=lvMd 2) ?_
 obtain⟨r,n,out⟩:=p
 have h1:PkOk l n:=h1
 have h2:out.length+r≤100:=h2
 obtain⟨k1,k2,k3⟩:=nF_ (m:=5) h1 (by omega)
 refine(ahp_ l c n se (r:Nat) ins out β _).mpr ?_
 try dsimp only
 rw[Z3_,h1.br hc,h1.all,h1.d,k3.d]
 cases r with
 |zero=>
  refine a0_ (fun h=>by simp at h) (fun _=> ?_)
  rw[←h3]at hK
  exact Nn.exit (Seen.refl _ _ _) hK
 |succ r=>
  refine a0_ (fun _=> ?_) (fun h=>by simp at h)
  refine nd_ rfl (nd_ rfl (nd_ rfl (nd_ rfl (nd_ (Nat.ble_eq_true_of_le (by omega)) (nd_ (by simp) ?_)))))
  have hw:IntKind.wrap .i64 (((r+1:Nat):Int)-1)=(r:Int):=by rw[w64 (by omega) (by omega)];omega
  have hk:IntKind.wrap .i64 (1+(numF l n 5).1)=1+(numF l n 5).1:=w64 (by omega) (by omega)
  rw[hw,hk]
  refine Nn.next (I:=IMd2 l r0 n0) (m:=fun p:PM1=>p.r) (F:=fun p:PM1=>FMd 6 (p.r:Nat)) (S:=fun p:PM1=>SMd2 l c p.n se ins p.ins) (p:=⟨r+1,n,out⟩) ⟨r,(anV l n).2,out++[anM l ((r+1:Nat):Int) n]⟩ ⟨acv_ h1,by show(out++[_]).length+r≤100;rw[List.length_append];simp;omega,h3⟩ (Nat.lt_succ_self _) ?_
  refine Seen.objs rfl fun q o2 h=> ?_
  have hl:(out++[anM l ((r+1:Nat):Int) n]).length=out.length+1:=by simp
  match q,h with
  |0,h=>cases h;exact⟨_,rfl,rfl,fun _ _ _ h=>h⟩
  |1,h=>cases h;exact⟨_,rfl,rfl,fun _ _ _ h=>h⟩
  |2,h=>cases h;exact⟨_,rfl,rfl,fun _ _ _ h=>h⟩
  |3,h=>cases h;exact⟨_,by rw[hl];rfl,rfl,fun _ _ _ h=>h⟩
  |4,h=>cases h;exact⟨_,rfl,rfl,fun _ _ _ h=>h⟩
  |5,h=>cases h;exact⟨_,rfl,rfl,fun _ _ _ h=>ahS_ (α:=Ms) (a:=anM l ((r+1:Nat):Int) n) (ts:=anT l ((r+1:Nat):Int) n) rfl rfl (fun _ _=>rfl) (fun j hj=>by
    have hj:j<12:=hj
    match j,hj with
    |0,_=>exact ToT.eq rfl
    |1,_=>exact ToT.eq rfl
    |2,_=>exact ToT.eq rfl
    |3,_=>exact ToT.eq rfl
    |4,_=>exact ToT.eq rfl
    |5,_=>exact ToT.eq rfl
    |6,_=>exact ToT.eq rfl
    |7,_=>exact ToT.eq rfl
    |8,_=>exact ToT.eq rfl
    |9,_=>exact ToT.eq rfl
    |10,_=>exact ToT.nil rfl
    |11,_=>exact aoT_ l _ n) (fun b j hj=>by
    have hj:j<12:=hj
    by_cases h10:j<10
    ·have e:nthT (anT l ((r+1:Nat):Int) n) j=Enc.enc (anM l ((r+1:Nat):Int) n) j:=by
      match j,h10 with
      |0,_=>rfl
      |1,_=>rfl
      |2,_=>rfl
      |3,_=>rfl
      |4,_=>rfl
      |5,_=>rfl
      |6,_=>rfl
      |7,_=>rfl
      |8,_=>rfl
      |9,_=>rfl
     refine e▸LkT.enc b (anM l ((r+1:Nat):Int) n) hj
    ·rcases(show j=10∨j=11 by omega)with rfl|rfl
     ·exact LkT.nil (by decide)
     ·exact aoS_ l _ n b) h⟩
  |_+6,h=>cases h
def wtCs(w:Wt)(qu:Value):List Value:=[.int .i64 w.nu,.int .i64 w.ad,.int .i64 w.ev,.int .i64 w.du,.int .i64 w.bd.k,.int .i64 w.bd.i,.float .f64 w.bd.f,.int .i64 w.mo,.bool w.ha,.bool w.lo,.int .i64 w.la.k,.int .i64 w.la.i,.float .f64 w.la.f,.int .i64 w.sq,qu]
def wtV(w:Wt)(i:Nat):Value:= .agg ⟨wtCs w (.slice (some ⟨i,0,some 0⟩) w.qu.length w.cqu)⟩
def wtO(w:Wt)(i:Nat):AObj:= .cells (wtCs w (.slice (some ⟨i,0,some 0⟩) w.qu.length w.cqu)) true 0
def ssL(s:Ss)(i:Nat):List Value:=ssCs s (.slice (some ⟨i,0,some 0⟩) s.fb.length s.cfb) (.slice (some ⟨i+1,0,some 0⟩) s.ins.length s.cins) (.slice (some ⟨i+2,0,some 0⟩) s.out.length s.cout) (.slice (some ⟨i+3,0,some 0⟩) s.sub.length s.csub)
def ssV(s:Ss)(i:Nat):Value:= .agg ⟨ssL s i⟩
def ssO(s:Ss)(i:Nat):AObj:= .cells (ssL s i) true 0
def ssR(k:Rk)(s:Ss):List (Option AObj):=[some (rowO k s.fb),some (rowO k s.ins),some (rowO k s.out),some (rowO k s.sub)]
theorem agd_{α:Type}[Enc α](A:List α)(i0 k:Nat)(a:α)(hi:i0<A.length):(A.set i0 a).getD k Enc.dflt=if k=i0 then a else A.getD k Enc.dflt:=by
 simp only[List.getD,List.getElem?_set]
 by_cases h:i0=k
 ·subst h;simp[hi]
 ·rw[if_neg h,if_neg (Ne.symm h)]
theorem abH_{α:Type}[Enc α][EncQ α]{A:List α}{i0 off:Nat}{ts:List Td}{g:Nat→Nat→Td}{a:α}(hi:i0<A.length)(hg: ∀k j,j<Enc.es α→g k j=encL A k j)(h1: ∀j,off≤j→j<off+ts.length→j<Enc.es α→nthT ts (j-off)=Enc.enc a j)(h2: ∀j,j<Enc.es α→ ¬(off≤j∧j<off+ts.length)→Enc.enc a j=Enc.enc (A.getD i0 Enc.dflt) j):
  ∀k j,j<Enc.es α→putT i0 off ts g k j=encL (A.set i0 a) k j:=by
 intro k j hj
 show putT i0 off ts g k j=Enc.enc ((A.set i0 a).getD k Enc.dflt) j
 have hgk:g k j=Enc.enc (A.getD k Enc.dflt) j:=hg k j hj
 rw[agd_ _ _ _ _ hi]
 unfold putT
 by_cases hr:off≤j∧j<off+ts.length
 ·have c1:(Nat.ble off j&&Nat.blt j (off+ts.length))=true:=by simp[hr.1,hr.2]
  rw[c1,cond_true,h1 j hr.1 hr.2 hj,hgk,EncQ.mrg]
  by_cases hk:k=i0
  ·subst hk;rw[if_pos rfl,Nat.beq_refl];rfl
  ·rw[if_neg hk,b8_ hk];rfl
 ·have c1:(Nat.ble off j&&Nat.blt j (off+ts.length))=false:=by
   rw[Bool.and_eq_false_iff]
   by_cases h:off≤j
   ·right;exact m2_ fun h'=>hr ⟨h,h'⟩
   ·left
    cases hq:Nat.ble off j with
    |false=>rfl
    |true=>exact absurd (Nat.le_of_ble_eq_true hq) h
  rw[c1,cond_false,hgk]
  by_cases hk:k=i0
  ·subst hk;rw[if_pos rfl];exact(h2 j hj hr).symm
  ·rw[if_neg hk]
theorem ahJ_{α:Type}[Enc α](A:List α)(i:Nat):A.set i (A.getD i Enc.dflt)=A:=by
 apply List.ext_getElem?
 intro k
 rw[List.getElem?_set]
 by_cases h:i=k
 ·subst h
  by_cases hi:i<A.length
  ·simp[hi,List.getD]
  ·simp[hi]
 ·rw[if_neg h]
theorem dE_{α:Type}[Enc α][EncQ α](x:α):(Enc.dec (nthT (b1_ x)):α)=x∧Enc.ok α (nthT (b1_ x))=okA α x:=by
 refine EncQ.cong _ x fun j hj=> ?_
 refine m9_ _ j _ ?_
 simp[b1_,List.getElem?_map,List.getElem?_range hj]
theorem eL_{α:Type}[Enc α](x:α):(b1_ x).length=Enc.es α:=by simp[b1_]
theorem x0_{α:Type}[Enc α][EncO α][EncQ α]{p:Sc α→Bool}(x:α):okA1 (Sc α) p [.agg (b1_ x)]=(okA α x&&p ⟨x⟩):=by
 show((Nat.beq (b1_ x).length (Enc.es α)&&Enc.ok α (nthT (b1_ x)))&&p ⟨Enc.dec (nthT (b1_ x))⟩)=_
 rw[eL_,Nat.beq_refl,(dE_ x).1,(dE_ x).2];rfl
theorem afr_{α β:Type}[Enc α][EncO α][EncQ α][Enc β][EncO β][EncQ β]{p:Sc α→Sc β→Bool}(x:α)(y:β):okA2 (Sc α) (Sc β) p [.agg (b1_ x),.agg (b1_ y)]=(okA α x&&okA β y&&p ⟨x⟩ ⟨y⟩):=by
 show((Nat.beq (b1_ x).length (Enc.es α)&&Enc.ok α (nthT (b1_ x)))&&(Nat.beq (b1_ y).length (Enc.es β)&&Enc.ok β (nthT (b1_ y)))&&p ⟨Enc.dec (nthT (b1_ x))⟩ ⟨Enc.dec (nthT (b1_ y))⟩)=_
 rw[eL_,eL_,Nat.beq_refl,Nat.beq_refl,(dE_ x).1,(dE_ x).2,(dE_ y).1,(dE_ y).2];rfl
theorem O8_{α:Type}[Enc α][EncO α]{p:Rw α→Bool}{l:List α}{c:Nat}(h:l.all (okA α)=true)(hl:l.length≤1000000)(hc:c≤1)(hp:p ⟨l,c⟩=true):okA1 (Rw α) p [.cell (tdL l c)]=true:=by
 show(okT α (tdL l c)&&p ⟨a4_ α (tdL l c),nilT (tdL l c)⟩)=true
 rw[lT_,d0_ h hl hc]
 exact hp
theorem h8_{α:Type}[Enc α]{st:ASt}{k c c0:Nat}(L:List α)(hg:st.h.get k=some (.row .mine (Enc.es α) 0 L.length (encL L)))(hc:L.length=0→c0=c):raE st (.own (Enc.es α) L.length c (encL L)) (.slice (some ⟨k,0,some 0⟩) L.length c0) [k]:=E6_ hg hc (Nat.le_refl _) (by omega) (fun i _ j _=>by rw[Nat.zero_add])
theorem Q8_{P:Program}{β:Bs}{ex:Nat→Kt→Prop}{b:Nat}{c:Code}{N:Nat}{F:Nat→AFr}{S:ASt}{Fr:AFr}{Sr:ASt}{p:Nat→Bool}
  (hex: ∀K,ex b K→((List.range N).all p=false→K .ret Fr Sr)∧((List.range N).all p=true→K (.exit b) (F N) S))
  (hr: ∀(k:Nat) (Nx:Kt),k≤N→(k<N→p k=false→Nx .ret Fr Sr)→(k<N→p k=true→Nx .normal (F (k+1)) S)→(k=N→Nx (.exit b) (F N) S)→J P β c (F k) S Nx):LoopJ P β ex b c (F 0) S:=by
 refine b2_ (fun k:Nat=>k≤N∧ ∀j,j<k→p j=true) F (fun _=>S) (fun k=>N-k) (fun k hI K hK=> ?_) 0 ⟨Nat.zero_le _,fun j hj=>by omega⟩
 obtain⟨hK1,hK2⟩:=hex K hK
 obtain⟨hk,hI⟩:=hI
 refine hr k _ hk (fun hlt hp=> .inr ⟨by simp,by simp,Fr,Sr,Seen.refl _ _ _,hK1 ?_⟩) (fun hlt hp=> .inl ⟨rfl,k+1,⟨hlt,fun j hj=> ?_⟩,by omega,Seen.refl _ _ _⟩) (fun he=> .inr ⟨by simp,by simp,F N,S,Seen.refl _ _ _,hK2 ?_⟩)
 ·rw[Bool.eq_false_iff]
  intro h
  rw[List.all_eq_true]at h
  rw[h k (List.mem_range.2 hlt)]at hp
  cases hp
 ·by_cases hjk:j=k
  ·subst hjk;exact hp
  ·exact hI j (by omega)
 ·rw[List.all_eq_true]
  intro j hj
  exact hI j (by have:=List.mem_range.1 hj;omega)
theorem C1_{P:Program}{β:Bs}{ex:Nat→Kt→Prop}{b:Nat}{c:Code}{N:Nat}{F:Nat→AFr}{S:Nat→ASt}
  (hex: ∀K,ex b K→K (.exit b) (F N) (S N))
  (hr: ∀(k:Nat) (Nx:Kt),k≤N→(k<N→ ∀f1 st1,Seen β f1 st1 (F (k+1)) (S (k+1))→Nx .normal f1 st1)→(k=N→Nx (.exit b) (F N) (S N))→J P β c (F k) (S k) Nx):LoopJ P β ex b c (F 0) (S 0):=by
 refine b2_ (fun k:Nat=>k≤N) F S (fun k=>N-k) (fun k hk K hK=> ?_) 0 (Nat.zero_le _)
 exact hr k _ hk (fun hlt f1 st1 hs=> .inl ⟨rfl,k+1,hlt,by omega,hs⟩) (fun he=> .inr ⟨by simp,by simp,F N,S N,Seen.refl _ _ _,hex K hK⟩)
def rdO(i n c:Nat)(q:Bool):AObj:= .cells [.slice (some ⟨1,0,some i⟩) n c,.bool q] true 0
def viR(L:List U8)(i n c:Nat)(q:Bool):List (Option AObj):=[some (rdO i n c q),some (rowO .look L)]
theorem anx_(L:List U8)(i n c:Nat)(q:Bool)(β:Bs)(K:AE→List (Option AObj)→Prop):lawE Tryz.prog toldM6 100 20 β (fun _=>9) (cnOf 2 fun _=>[]) (fun _ _=>False) 63 [.pointer (some ⟨0,0,none⟩),.int .i64 1] (mkS (viR L i n c q)) (outC 2 K)=
 (fun(z1:AObj)=>((fun(z0:Prop)=>(br q z0 (br (decide ((1:Int)>Int.ofNat n)) z0 (need (Nat.ble 1 n) (need (Nat.ble 1 n) (need (Nat.ble 0 (i+0+0)&&Nat.blt (i+0+0) L.length) (K (.returned (.int .i64 (IntKind.wrap .i64 (Int.ofNat (BitVec.toNat (BitVec.ofInt 64 (0:Int)|||BitVec.ofInt 64 (IntKind.wrap .i64 (U8.v (List.getD L (i+0+0) Enc.dflt))))))))) [some (.cells [.slice (some (Addr.mk 1 0 (some (i+1)))) (n-1) (bif Nat.beq n 0 then c else 0),.bool q] true 0),some z1]))))))) (K (.returned (.int .i64 (0:Int))) [some (.cells [.slice none 0 0,.bool true] true 0),some z1]))) (.row .look 1 0 L.length (encL L)):=by kernel_rfl
theorem anw_(L:List U8)(i n c:Nat)(q:Bool)(β:Bs)(K:AE→List (Option AObj)→Prop):lawE Tryz.prog toldM6 100 20 β (fun _=>9) (cnOf 2 fun _=>[]) (fun _ _=>False) 63 [.pointer (some ⟨0,0,none⟩),.int .i64 2] (mkS (viR L i n c q)) (outC 2 K)=
 (fun(z2:Nat)=>((fun(z1:AObj)=>((fun(z0:Prop)=>(br q z0 (br (decide ((2:Int)>Int.ofNat n)) z0 (need (Nat.ble 2 n) (need (Nat.ble 2 n) (need (Nat.ble 0 (i+0+0)&&Nat.blt (i+0+0) z2) (need (Nat.ble 0 (i+0+1)&&Nat.blt (i+0+1) z2) (K (.returned (.int .i64 (IntKind.wrap .i64 (Int.ofNat (BitVec.toNat (BitVec.ofInt 64 (IntKind.wrap .i64 (IntKind.wrap .i64 (Int.ofNat (BitVec.toNat (BitVec.ofInt 64 (0:Int)|||BitVec.ofInt 64 (IntKind.wrap .i64 (U8.v (List.getD L (i+0+0) Enc.dflt))))))*(256:Int)))|||BitVec.ofInt 64 (IntKind.wrap .i64 (U8.v (List.getD L (i+0+1) Enc.dflt))))))))) [some (.cells [.slice (some (Addr.mk 1 0 (some (i+2)))) (n-2) (bif Nat.beq n 0 then c else 0),.bool q] true 0),some z1])))))))) (K (.returned (.int .i64 (0:Int))) [some (.cells [.slice none 0 0,.bool true] true 0),some z1]))) (.row .look 1 0 z2 (encL L)))) L.length:=by kernel_rfl
theorem anv_(L:List U8)(i n c:Nat)(q:Bool)(β:Bs)(K:AE→List (Option AObj)→Prop):lawE Tryz.prog toldM6 100 20 β (fun _=>9) (cnOf 2 fun _=>[]) (fun _ _=>False) 63 [.pointer (some ⟨0,0,none⟩),.int .i64 4] (mkS (viR L i n c q)) (outC 2 K)=
 (fun(z1:Nat)=>((fun(z2:AObj)=>((fun(z0:Prop)=>(br q z0 (br (decide ((4:Int)>Int.ofNat n)) z0 (need (Nat.ble 4 n) (need (Nat.ble 4 n) (need (Nat.ble 0 (i+0+0)&&Nat.blt (i+0+0) z1) (need (Nat.ble 0 (i+0+1)&&Nat.blt (i+0+1) z1) (need (Nat.ble 0 (i+0+2)&&Nat.blt (i+0+2) z1) (need (Nat.ble 0 (i+0+3)&&Nat.blt (i+0+3) z1) (K (.returned (.int .i64 (IntKind.wrap .i64 (Int.ofNat (BitVec.toNat (BitVec.ofInt 64 (IntKind.wrap .i64 (IntKind.wrap .i64 (Int.ofNat (BitVec.toNat (BitVec.ofInt 64 (IntKind.wrap .i64 (IntKind.wrap .i64 (Int.ofNat (BitVec.toNat (BitVec.ofInt 64 (IntKind.wrap .i64 (IntKind.wrap .i64 (Int.ofNat (BitVec.toNat (BitVec.ofInt 64 (0:Int)|||BitVec.ofInt 64 (IntKind.wrap .i64 (U8.v (List.getD L (i+0+0) Enc.dflt))))))*(256:Int)))|||BitVec.ofInt 64 (IntKind.wrap .i64 (U8.v (List.getD L (i+0+1) Enc.dflt))))))*(256:Int)))|||BitVec.ofInt 64 (IntKind.wrap .i64 (U8.v (List.getD L (i+0+2) Enc.dflt))))))*(256:Int)))|||BitVec.ofInt 64 (IntKind.wrap .i64 (U8.v (List.getD L (i+0+3) Enc.dflt))))))))) [some (.cells [.slice (some (Addr.mk 1 0 (some (i+4)))) (n-4) (bif Nat.beq n 0 then c else 0),.bool q] true 0),some z2])))))))))) (K (.returned (.int .i64 (0:Int))) [some (.cells [.slice none 0 0,.bool true] true 0),some z2]))) (.row .look 1 0 z1 (encL L)))) L.length:=by kernel_rfl
theorem anu_(L:List U8)(i n c:Nat)(q:Bool)(β:Bs)(K:AE→List (Option AObj)→Prop):lawE Tryz.prog toldM6 100 20 β (fun _=>9) (cnOf 2 fun _=>[]) (fun _ _=>False) 63 [.pointer (some ⟨0,0,none⟩),.int .i64 8] (mkS (viR L i n c q)) (outC 2 K)=
 (fun(z1:Nat)=>((fun(z2:AObj)=>((fun(z0:Prop)=>(br q z0 (br (decide ((8:Int)>Int.ofNat n)) z0 (need (Nat.ble 8 n) (need (Nat.ble 8 n) (need (Nat.ble 0 (i+0+0)&&Nat.blt (i+0+0) z1) (need (Nat.ble 0 (i+0+1)&&Nat.blt (i+0+1) z1) (need (Nat.ble 0 (i+0+2)&&Nat.blt (i+0+2) z1) (need (Nat.ble 0 (i+0+3)&&Nat.blt (i+0+3) z1) (need (Nat.ble 0 (i+0+4)&&Nat.blt (i+0+4) z1) (need (Nat.ble 0 (i+0+5)&&Nat.blt (i+0+5) z1) (need (Nat.ble 0 (i+0+6)&&Nat.blt (i+0+6) z1) (need (Nat.ble 0 (i+0+7)&&Nat.blt (i+0+7) z1) (K (.returned (.int .i64 (IntKind.wrap .i64 (Int.ofNat (BitVec.toNat (BitVec.ofInt 64 (IntKind.wrap .i64 (IntKind.wrap .i64 (Int.ofNat (BitVec.toNat (BitVec.ofInt 64 (IntKind.wrap .i64 (IntKind.wrap .i64 (Int.ofNat (BitVec.toNat (BitVec.ofInt 64 (IntKind.wrap .i64 (IntKind.wrap .i64 (Int.ofNat (BitVec.toNat (BitVec.ofInt 64 (IntKind.wrap .i64 (IntKind.wrap .i64 (Int.ofNat (BitVec.toNat (BitVec.ofInt 64 (IntKind.wrap .i64 (IntKind.wrap .i64 (Int.ofNat (BitVec.toNat (BitVec.ofInt 64 (IntKind.wrap .i64 (IntKind.wrap .i64 (Int.ofNat (BitVec.toNat (BitVec.ofInt 64 (IntKind.wrap .i64 (IntKind.wrap .i64 (Int.ofNat (BitVec.toNat (BitVec.ofInt 64 (0:Int)|||BitVec.ofInt 64 (IntKind.wrap .i64 (U8.v (List.getD L (i+0+0) Enc.dflt))))))*(256:Int)))|||BitVec.ofInt 64 (IntKind.wrap .i64 (U8.v (List.getD L (i+0+1) Enc.dflt))))))*(256:Int)))|||BitVec.ofInt 64 (IntKind.wrap .i64 (U8.v (List.getD L (i+0+2) Enc.dflt))))))*(256:Int)))|||BitVec.ofInt 64 (IntKind.wrap .i64 (U8.v (List.getD L (i+0+3) Enc.dflt))))))*(256:Int)))|||BitVec.ofInt 64 (IntKind.wrap .i64 (U8.v (List.getD L (i+0+4) Enc.dflt))))))*(256:Int)))|||BitVec.ofInt 64 (IntKind.wrap .i64 (U8.v (List.getD L (i+0+5) Enc.dflt))))))*(256:Int)))|||BitVec.ofInt 64 (IntKind.wrap .i64 (U8.v (List.getD L (i+0+6) Enc.dflt))))))*(256:Int)))|||BitVec.ofInt 64 (IntKind.wrap .i64 (U8.v (List.getD L (i+0+7) Enc.dflt))))))))) [some (.cells [.slice (some (Addr.mk 1 0 (some (i+8)))) (n-8) (bif Nat.beq n 0 then c else 0),.bool q] true 0),some z2])))))))))))))) (K (.returned (.int .i64 (0:Int))) [some (.cells [.slice none 0 0,.bool true] true 0),some z2]))) (.row .look 1 0 z1 (encL L)))) L.length:=by kernel_rfl
def FMd4(i k:Int):AFr:=mkF 87 [(2,.pointer (some ⟨1,0,none⟩)),(3,.pointer (some ⟨2,0,none⟩)),(4,.pointer (some ⟨3,0,none⟩)),(7,.int .i64 i),(8,.pointer (some ⟨7,0,none⟩)),(9,.int .i64 k)]
def SMd3(l:List U8)(c:Nat)(n se:Int)(ins out:List Ms)(sub:List Wt):ASt:=mkS [some (rowO .look l),some (.cells (ssCs zSs nilV nilV nilV nilV) true 0),some (pkQ l.length c n),some (.cells (ssCs (sSs se) nilV (.slice (some ⟨4,0,some 0⟩) ins.length 1) (.slice (some ⟨5,0,some 0⟩) out.length 1) (.slice (some ⟨6,0,some 0⟩) sub.length 1)) true 0),some (rowO .mine ins),some (rowO .mine out),some (rowO .mine sub)]
def SMd4(l:List U8)(c:Nat)(n se:Int)(ins out:List Ms)(sub:List Wt)(w:Wt):ASt:=mkS [some (rowO .look l),some (.cells (ssCs zSs nilV nilV nilV nilV) true 0),some (pkQ l.length c n),some (.cells (ssCs (sSs se) nilV (.slice (some ⟨4,0,some 0⟩) ins.length 1) (.slice (some ⟨5,0,some 0⟩) out.length 1) (.slice (some ⟨6,0,some 0⟩) sub.length 1)) true 0),some (rowO .mine ins),some (rowO .mine out),some (rowO .mine sub),some (.cells (wtCs w (.slice (some ⟨8,0,some 0⟩) w.qu.length w.cqu)) true 0),some (rowO .mine w.qu)]
def amb_:AX→List Nat:=fun _=>[2,3,4,7,8,9]
def w0(nu ad ev mo:Int):Wt:=⟨nu,ad,ev,0,⟨0,0,0⟩,mo,false,false,⟨0,0,0⟩,0,[],1⟩
def w1(nu ad ev du mo vi:Int):Wt:=⟨nu,ad,ev,du,⟨0,0,0⟩,mo,true,false,⟨2,vi,0⟩,1,[⟨1,⟨2,vi,0⟩,false⟩],0⟩
def shpD(l:List U8)(c:Nat)(n' se i k' nu ad ev du mo vi:Int)(ins out:List Ms)(sub:List Wt):AFr×ASt:=(FMd4 i k',SMd4 l c n' se ins out sub (w1 nu ad ev du mo vi))
def shpF(l:List U8)(c:Nat)(n' se i k' nu ad ev mo:Int)(ins out:List Ms)(sub:List Wt):AFr×ASt:=(FMd4 i k',SMd4 l c n' se ins out sub (w0 nu ad ev mo))
theorem adQ_(l:List U8)(c:Nat)(n se i k nu ad ev mo:Int)(ins out:List Ms)(sub:List Wt)(β:Bs)(Nx:Kt):c0_ Tryz.prog toldM6 100 20 β (fun _=>0) (cnOf 1 fun _=>[2,3,4,7,8,9]) (fun _ _=>False) 7 6 1 amb_ (FMd4 i k) (SMd4 l c n se ins out sub (w0 nu ad ev mo)) Nx=
 (fun(z1 z4 z9 z10 z11:AObj) (z13:Bool) (z14:Nat) (z16 z17:Int)=>((fun(z2:AFr) (z5:AObj) (z8 z15:Int)=>((fun(z3:Int×Int) (z12:Bool)=>((fun(z6:AObj) (z7:Int)=>((fun(z0:AObj)=>(br (decide (k>(0:Int))) (need z12 (need z12 (br (decide (IntKind.wrap .i64 z17<(0:Int))) (onP Nx .normal (shpF l c (Prod.snd z3) se i z16 nu ad ev mo ins out sub)) (br (decide (ev>(0:Int))) (need (true&& !decide (ev=(0:Int))) (br z13 (Nx .normal z2 (mkS [some z5,some z4,some z6,some z1,some z9,some z10,some z11,some (.cells [.int .i64 nu,.int .i64 ad,.int .i64 ev,.int .i64 z8,.int .i64 (0:Int),.int .i64 (0:Int),.float .f64 0,.int .i64 mo,.bool true,.bool true,.int .i64 (2:Int),.int .i64 z7,.float .f64 0,.int .i64 (1:Int),.slice (some ⟨8,0,some 1⟩) 0 0] true 0),some z0])) (Nx .normal z2 (mkS [some z5,some z4,some z6,some z1,some z9,some z10,some z11,some (.cells [.int .i64 nu,.int .i64 ad,.int .i64 ev,.int .i64 z8,.int .i64 (0:Int),.int .i64 (0:Int),.float .f64 0,.int .i64 mo,.bool true,.bool false,.int .i64 (2:Int),.int .i64 z7,.float .f64 0,.int .i64 (1:Int),.slice (some ⟨8,0,some 0⟩) 1 0] true 0),some z0])))) (br z13 (Nx .normal z2 (mkS [some z5,some z4,some z6,some z1,some z9,some z10,some z11,some (.cells [.int .i64 nu,.int .i64 ad,.int .i64 ev,.int .i64 z15,.int .i64 (0:Int),.int .i64 (0:Int),.float .f64 0,.int .i64 mo,.bool true,.bool true,.int .i64 (2:Int),.int .i64 z7,.float .f64 0,.int .i64 (1:Int),.slice (some ⟨8,0,some 1⟩) 0 0] true 0),some z0])) (Nx .normal z2 (mkS [some z5,some z4,some z6,some z1,some z9,some z10,some z11,some (.cells [.int .i64 nu,.int .i64 ad,.int .i64 ev,.int .i64 z15,.int .i64 (0:Int),.int .i64 (0:Int),.float .f64 0,.int .i64 mo,.bool true,.bool false,.int .i64 (2:Int),.int .i64 z7,.float .f64 0,.int .i64 (1:Int),.slice (some ⟨8,0,some 0⟩) 1 0] true 0),some z0]))))))) (onP Nx (.exit 6) (shpF l c n se i k nu ad ev mo ins out sub)))) (.row .mine 5 0 1 fun j k=>mrgT (Nat.blt j (List.length ([]:List Im))) (encL ([]:List Im) (0+(0+j)) k) (selT 5 1 [.sc (.int .i64 (IntKind.wrap .i64 ((0:Int)+(1:Int)))),.sc (.int .i64 (2:Int)),.sc (.int .i64 z7),.sc (.float .f64 0),.sc (.bool false)] (j-List.length ([]:List Im)) k)))) (.cells [.slice (some ⟨0,0,some 0⟩) z14 c,.int .i64 (Prod.snd z3)] true 0) (wrF (2:Int) (List.getD r7_ (Int.toNat (Prod.fst z3)) (0:Int))))) (numF (rowL U8 z14 (some z5)) n (13:Int)) (rowB U8 z14 c (some z5)&&List.all (rowL U8 z14 (some z5)) (okA U8)&&decide ((0:Int)≤n)&&true))) (mkF 87 [(2,.pointer (some ⟨1,0,none⟩)),(3,.pointer (some ⟨2,0,none⟩)),(4,.pointer (some ⟨3,0,none⟩)),(7,.int .i64 i),(8,.pointer (some ⟨7,0,none⟩)),(9,.int .i64 z16)]) (.row .look 1 0 z14 (encL l)) (IntKind.wrap .i64 ((0:Int)+IntKind.wrap .i64 (IntKind.wrap .i64 (IntKind.wrap .i64 (Int.tdiv (IntKind.wrap .i64 (IntKind.wrap .i64 z17-(0:Int))) ev)+(1:Int))*ev))) (IntKind.wrap .i64 z17))) (.cells [.bool true,.int .i64 se,.slice none 0 0,.bool false,.slice (some ⟨4,0,some 0⟩) ins.length 1,.slice (some ⟨5,0,some 0⟩) out.length 1,.slice (some ⟨6,0,some 0⟩) sub.length 1,.int .i64 (0:Int)] true 0) (.cells [.bool false,.int .i64 (0:Int),.slice none 0 0,.bool false,.slice none 0 0,.slice none 0 0,.slice none 0 0,.int .i64 (0:Int)] true 0) (.row .mine 12 0 ins.length (encL ins)) (.row .mine 12 0 out.length (encL out)) (.row .mine 15 0 sub.length (encL sub)) (decide (Int.ofNat (List.length ([]:List Im)+1)>mo)) l.length (IntKind.wrap .i64 (k-(1:Int))) ((10:Int)*k):=by kernel_rfl
theorem adR_(l:List U8)(c:Nat)(n se i k nu ad ev du mo vi:Int)(ins out:List Ms)(sub:List Wt)(β:Bs)(Nx:Kt):c0_ Tryz.prog toldM6 100 20 β (fun _=>0) (cnOf 1 fun _=>[2,3,4,7,8,9]) (fun _ _=>False) 7 6 1 amb_ (FMd4 i k) (SMd4 l c n se ins out sub (w1 nu ad ev du mo vi)) Nx=
 (fun(z1 z4 z10 z11 z12:AObj) (z14:Vl) (z21:Addr) (z22 z26:Int) (z24:Nat)=>((fun(z2:AFr) (z6 z18:AObj) (z7 z17:Int) (z19:Bool) (z23:Nat)=>((fun(z15:List U8)=>((fun(z16:Bool) (z25:Int×Int)=>((fun(z0:Int) (z3:AObj)=>((fun(z13:Bool) (z20:Int)=>((fun(z5:List Td)=>((fun(z8 z9:AObj)=>(br (decide (k>(0:Int))) (need z16 (need z16 (br (decide (IntKind.wrap .i64 z26<du)) (onP Nx .normal (shpD l c (Prod.snd z25) se i z22 nu ad ev du mo vi ins out sub)) (br (decide (ev>(0:Int))) (need (true&& !decide (ev=(0:Int))) (br z13 (Nx .normal z2 (mkS [some z6,some z4,some z3,some z1,some z10,some z11,some z12,some (.cells [.int .i64 nu,.int .i64 ad,.int .i64 ev,.int .i64 z7,.int .i64 (0:Int),.int .i64 (0:Int),.float .f64 0,.int .i64 mo,.bool true,.bool false,.int .i64 (2:Int),.int .i64 vi,.float .f64 0,.int .i64 (1:Int),.slice (some z21) 1 0] true 0),some z18])) (br z19 (Nx .normal z2 (mkS [some z6,some z4,some z3,some z1,some z10,some z11,some z12,some (.cells [.int .i64 nu,.int .i64 ad,.int .i64 ev,.int .i64 z7,.int .i64 (0:Int),.int .i64 (0:Int),.float .f64 0,.int .i64 mo,.bool true,.bool false,.int .i64 (2:Int),.int .i64 z20,.float .f64 0,.int .i64 (2:Int),.slice (some ⟨8,0,some 1⟩) 1 0] true 0),some z8])) (Nx .normal z2 (mkS [some z6,some z4,some z3,some z1,some z10,some z11,some z12,some (.cells [.int .i64 nu,.int .i64 ad,.int .i64 ev,.int .i64 z7,.int .i64 (0:Int),.int .i64 (0:Int),.float .f64 0,.int .i64 mo,.bool true,.bool false,.int .i64 (2:Int),.int .i64 z20,.float .f64 0,.int .i64 (2:Int),.slice (some z21) 2 0] true 0),some z9]))))) (br z13 (Nx .normal z2 (mkS [some z6,some z4,some z3,some z1,some z10,some z11,some z12,some (.cells [.int .i64 nu,.int .i64 ad,.int .i64 ev,.int .i64 z17,.int .i64 (0:Int),.int .i64 (0:Int),.float .f64 0,.int .i64 mo,.bool true,.bool false,.int .i64 (2:Int),.int .i64 vi,.float .f64 0,.int .i64 (1:Int),.slice (some z21) 1 0] true 0),some z18])) (br z19 (Nx .normal z2 (mkS [some z6,some z4,some z3,some z1,some z10,some z11,some z12,some (.cells [.int .i64 nu,.int .i64 ad,.int .i64 ev,.int .i64 z17,.int .i64 (0:Int),.int .i64 (0:Int),.float .f64 0,.int .i64 mo,.bool true,.bool false,.int .i64 (2:Int),.int .i64 z20,.float .f64 0,.int .i64 (2:Int),.slice (some ⟨8,0,some 1⟩) 1 0] true 0),some z8])) (Nx .normal z2 (mkS [some z6,some z4,some z3,some z1,some z10,some z11,some z12,some (.cells [.int .i64 nu,.int .i64 ad,.int .i64 ev,.int .i64 z17,.int .i64 (0:Int),.int .i64 (0:Int),.float .f64 0,.int .i64 mo,.bool true,.bool false,.int .i64 (2:Int),.int .i64 z20,.float .f64 0,.int .i64 (2:Int),.slice (some z21) 2 0] true 0),some z9])))))))) (onP Nx (.exit 6) (shpD l c n se i k nu ad ev du mo vi ins out sub)))) (.row .mine 5 0 2 (putT 1 4 [.sc (.bool true)] fun j k=>mrgT (Nat.blt j z23) (encL [Im.mk (1:Int) z14 false] (0+(0+j)) k) (selT 5 1 z5 (j-List.length [Im.mk (1:Int) z14 false]) k))) (.row .mine 5 0 2 fun j k=>mrgT (Nat.blt j z23) (encL [Im.mk (1:Int) z14 false] (0+(0+j)) k) (selT 5 1 z5 (j-List.length [Im.mk (1:Int) z14 false]) k)))) [.sc (.int .i64 (IntKind.wrap .i64 ((1:Int)+(1:Int)))),.sc (.int .i64 (2:Int)),.sc (.int .i64 z20),.sc (.float .f64 0),.sc (.bool false)])) (!decide (IntKind.wrap .u64 (IntKind.wrap .u64 (if vi>wrF (2:Int) z0 then vi else wrF (2:Int) z0)-IntKind.wrap .u64 (if vi<wrF (2:Int) z0 then vi else wrF (2:Int) z0))>(0:Int))) (wrF (2:Int) z0))) (List.getD r7_ (Int.toNat (Prod.fst z25)) (0:Int)) (.cells [.slice (some ⟨0,0,some 0⟩) z24 c,.int .i64 (Prod.snd z25)] true 0))) (rowB U8 z24 c (some z6)&&List.all z15 (okA U8)&&decide ((0:Int)≤n)&&true) (numF z15 n (13:Int)))) (rowL U8 z24 (some z6)))) (mkF 87 [(2,.pointer (some ⟨1,0,none⟩)),(3,.pointer (some
 ⟨2,0,none⟩)),(4,.pointer (some ⟨3,0,none⟩)),(7,.int .i64 i),(8,.pointer (some ⟨7,0,none⟩)),(9,.int .i64 z22)]) (.row .look 1 0 z24 (encL l)) (.row .mine 5 0 1 fun j=>encL [Im.mk (1:Int) z14 false] (0+j)) (IntKind.wrap .i64 (du+IntKind.wrap .i64 (IntKind.wrap .i64 (IntKind.wrap .i64 (Int.tdiv (IntKind.wrap .i64 (IntKind.wrap .i64 z26-du)) ev)+(1:Int))*ev))) (IntKind.wrap .i64 z26) (decide (Int.ofNat (List.length [Im.mk (1:Int) z14 false]+1)>mo)) (List.length [Im.mk (1:Int) z14 false]))) (.cells [.bool true,.int .i64 se,.slice none 0 0,.bool false,.slice (some ⟨4,0,some 0⟩) ins.length 1,.slice (some ⟨5,0,some 0⟩) out.length 1,.slice (some ⟨6,0,some 0⟩) sub.length 1,.int .i64 (0:Int)] true 0) (.cells [.bool false,.int .i64 (0:Int),.slice none 0 0,.bool false,.slice none 0 0,.slice none 0 0,.slice none 0 0,.int .i64 (0:Int)] true 0) (.row .mine 12 0 ins.length (encL ins)) (.row .mine 12 0 out.length (encL out)) (.row .mine 15 0 sub.length (encL sub)) (Vl.mk (2:Int) vi 0) ⟨8,0,some 0⟩ (IntKind.wrap .i64 (k-(1:Int))) ((10:Int)*k) l.length:=by kernel_rfl
def dueF(ev t:Int):Int:=cond (decide (ev>0)) ((t/ev+1)*ev) t
theorem aki_{ev t:Int}(he:0<ev)(h2:ev<1000)(h3:0≤t)(h4:t<1000):0≤t/ev∧t/ev<1000∧t<(t/ev+1)*ev∧(t/ev+1)*ev≤1001*1000:=by
 have hq0:0≤t/ev:=Int.ediv_nonneg h3 (by omega)
 have hq1:t/ev≤t:=Int.ediv_le_self _ h3
 have hlt:t<(t/ev+1)*ev:=Int.lt_ediv_add_one_mul_self t he
 exact⟨hq0,by omega,hlt,Int.mul_le_mul (by omega) (by omega) (by omega) (by omega)⟩
theorem amF_{ev t t':Int}(h1:0≤ev)(h2:ev<1000)(h3:0≤t)(h4:t<1000)(h5:t'<t):t'<dueF ev t:=by
 unfold dueF
 cases he:decide (ev>0)with
 |false=>exact h5
 |true=>
  obtain⟨_,_,h,_⟩:=aki_ (of_decide_eq_true he) h2 h3 h4
  show t'<(t/ev+1)*ev
  omega
theorem aoK_{ev t:Int}(he:decide (ev>0)=true)(h2:ev<1000)(h3:0≤t)(h4:t<1000):IntKind.wrap .i64 (0+IntKind.wrap .i64 (IntKind.wrap .i64 (IntKind.wrap .i64 (Int.tdiv (IntKind.wrap .i64 (t-0)) ev)+1)*ev))=dueF ev t:=by
 have hp:0<ev:=of_decide_eq_true he
 obtain⟨k1,k2,k3,k4⟩:=aki_ hp h2 h3 h4
 unfold dueF
 rw[he,cond_true,Int.sub_zero,w64 (x:=t) (by omega) (by omega),Int.tdiv_eq_ediv_of_nonneg h3,w64 (x:=t/ev) (by omega) (by omega),w64 (x:=t/ev+1) (by omega) (by omega)]
 generalize(t/ev+1)*ev=q at k3 k4 ⊢
 rw[w64 (x:=q) (by omega) (by omega),Int.zero_add,w64 (by omega) (by omega)]
def viK(l:List U8)(n:Int):Int:=wrF 2 (List.getD r7_ (Int.toNat (numF l n 13).1) 0)
def wkL(l:List U8):Nat→Int→Wt→Wt×Int
 |0,n,w=>(w,n)
 |k+1,n,w=>wkL l k (numF l n 13).2 (cond w.ha w (w1 w.nu w.ad w.ev (dueF w.ev (10*((k+1:Nat):Int))) w.mo (viK l n)))
structure PM4 where
 k:Nat
 n:Int
 w:Wt
def IMd4(l:List U8)(nu ad ev mo:Int)(r:Wt×Int)(p:PM4):Prop:=PkOk l p.n∧p.k≤3∧(p.w=w0 nu ad ev mo∨ ∃du vi,p.w=w1 nu ad ev du mo vi∧10*(p.k:Int)<du)∧wkL l p.k p.n p.w=r
theorem aix_{l:List U8}{c:Nat}{se i nu ad ev mo:Int}{ins out:List Ms}{sub:List Wt}{β:Bs}(hβ:β.X.length=1)(hc:c≤1)(h1:0≤ev)(h2:ev<1000)(hmo:1≤mo){ex:Nat→Kt→Prop}{k0:Nat}{n0:Int}(hk0:k0≤3)(hp:PkOk l n0)
  (hex: ∀K,ex 6 K→K (.exit 6) (FMd4 i 0) (SMd4 l c (wkL l k0 n0 (w0 nu ad ev mo)).2 se ins out sub (wkL l k0 n0 (w0 nu ad ev mo)).1)):
  LoopJ Tryz.prog β ex 6 (a5_ Tryz.prog 7 6) (FMd4 i (k0:Nat)) (SMd4 l c n0 se ins out sub (w0 nu ad ev mo)):=by
 refine b2_ (IMd4 l nu ad ev mo (wkL l k0 n0 (w0 nu ad ev mo))) (fun p:PM4=>FMd4 i (p.k:Nat)) (fun p:PM4=>SMd4 l c p.n se ins out sub p.w) (fun p:PM4=>p.k) (fun p hI K hK=> ?_) ⟨k0,n0,w0 nu ad ev mo⟩ ⟨hp,hk0,.inl rfl,rfl⟩
 have hK:=hex K hK
 generalize wkL l k0 n0 (w0 nu ad ev mo)=r at hI hK ⊢
 show J _ β _ _ _ (Nn β (IMd4 l nu ad ev mo r) (fun p:PM4=>p.k) (fun p:PM4=>FMd4 i (p.k:Nat)) (fun p:PM4=>SMd4 l c p.n se ins out sub p.w) p K)
 obtain⟨k,n,w⟩:=p
 obtain⟨g1,g2,g3,g4⟩:=hI
 have g1:PkOk l n:=g1
 have g2:k≤3:=g2
 have g3:w=w0 nu ad ev mo∨ ∃du vi,w=w1 nu ad ev du mo vi∧10*(k:Int)<du:=g3
 have g4:wkL l k n w=r:=g4
 have nok:0<k→PkOk l (numF l n 13).2:=fun _=>(nF_ (m:=13) g1 (by omega)).2.2
 refine rJ_ (E:=1) (lvs:=fun _=>[2,3,4,7,8,9]) (un:=fun _=>0) (fuel:=100) (n:=20) (ex:=fun _ _=>False) follows toldM6_ok hβ (lv:=amb_) ?_
 have hb1:=g1.br hc
 have hb2:=Z3_ l
 unfold Br at hb1
 unfold Lr at hb2
 rcases g3 with rfl|⟨du,vi,rfl,hdu⟩
 ·refine(adQ_ l c n se i k nu ad ev mo ins out sub β _).mpr ?_
  try dsimp only
  rw[hb1,hb2,g1.all,g1.d]
  cases k with
  |zero=>
   refine a0_ (fun h=>by simp at h) (fun _=> ?_)
   have g4:(w0 nu ad ev mo,n)=r:=g4
   subst g4
   exact Nn.exit (Seen.refl _ _ _) hK
  |succ k=>
   have hw:IntKind.wrap .i64 (((k+1:Nat):Int)-1)=(k:Int):=by rw[w64 (by omega) (by omega)];omega
   have ht:IntKind.wrap .i64 (10*((k+1:Nat):Int))=10*((k+1:Nat):Int):=w64 (by omega) (by omega)
   have h0:decide (10*((k+1:Nat):Int)<0)=false:=by simp;omega
   have hm:decide (Int.ofNat (List.length ([]:List Im)+1)>mo)=false:=by
    show decide ((1:Int)>mo)=false
    simp;omega
   have hg4:wkL l k (numF l n 13).2 (w1 nu ad ev (dueF ev (10*((k+1:Nat):Int))) mo (viK l n))=r:=g4
   have fin: ∀(du:Int),du=dueF ev (10*((k+1:Nat):Int))→ ∀st:ASt,Seen β (FMd4 i (k:Nat)) st (FMd4 i (k:Nat)) (SMd4 l c (numF l n 13).2 se ins out sub (w1 nu ad ev du mo (viK l n)))→
     Nn β (IMd4 l nu ad ev mo r) (fun p:PM4=>p.k) (fun p:PM4=>FMd4 i (p.k:Nat)) (fun p:PM4=>SMd4 l c p.n se ins out sub p.w) ⟨k+1,n,w0 nu ad ev mo⟩ K .normal (FMd4 i (k:Nat)) st:=fun du hdu st hs=>by
    subst hdu
    exact Nn.next (I:=IMd4 l nu ad ev mo r) (m:=fun p:PM4=>p.k) (F:=fun p:PM4=>FMd4 i (p.k:Nat)) (S:=fun p:PM4=>SMd4 l c p.n se ins out sub p.w) (p:=⟨k+1,n,w0 nu ad ev mo⟩) ⟨k,(numF l n 13).2,w1 nu ad ev (dueF ev (10*((k+1:Nat):Int))) mo (viK l n)⟩ ⟨nok (by omega),by show k≤3;omega,.inr ⟨_,_,rfl,by show 10*(k:Int)<_;exact amF_ h1 h2 (by omega) (by omega) (by omega)⟩,hg4⟩ (Nat.lt_succ_self _) hs
   rw[hw,ht]
   refine a0_ (fun _=> ?_) (fun h=>by simp at h)
   refine nd_ rfl (nd_ rfl (a0_ (fun h=>by rw[h0]at h;cases h) (fun _=>a0_ (fun he=>nd_ ?_ (a0_ (fun h=>by rw[hm]at h;cases h) (fun _=> ?_))) (fun he=>a0_ (fun h=>by rw[hm]at h;cases h) (fun _=> ?_)))))
   ·have:0<ev:=of_decide_eq_true he
    simp;omega
   ·rw[aoK_ he h2 (by omega) (by omega)]
    refine fin _ rfl _ (Seen.objs rfl fun q o2 h=> ?_)
    match q,h with
    |0,h=>cases h;exact⟨_,rfl,rfl,fun _ _ _ h=>h⟩
    |1,h=>cases h;exact⟨_,rfl,rfl,fun _ _ _ h=>h⟩
    |2,h=>cases h;exact⟨_,rfl,rfl,fun _ _ _ h=>h⟩
    |3,h=>cases h;exact⟨_,rfl,rfl,fun _ _ _ h=>h⟩
    |4,h=>cases h;exact⟨_,rfl,rfl,fun _ _ _ h=>h⟩
    |5,h=>cases h;exact⟨_,rfl,rfl,fun _ _ _ h=>h⟩
    |6,h=>cases h;exact⟨_,rfl,rfl,fun _ _ _ h=>h⟩
    |7,h=>cases h;exact⟨_,rfl,rfl,fun _ _ _ h=>h⟩
    |8,h=>
     cases h
     exact⟨_,rfl,rfl,fun _ _ _ h=>k6_ (α:=Im) (l:=[]) (a:=⟨1,⟨2,viK l n,0⟩,false⟩) rfl rfl (fun _ _=>rfl) (fun j hj=>by
      have hj:j<5:=hj
      match j,hj with
      |0,_=>rfl
      |1,_=>rfl
      |2,_=>rfl
      |3,_=>rfl
      |4,_=>rfl) h⟩
    |_+9,h=>cases h
   ·have hd:dueF ev (10*((k+1:Nat):Int))=10*((k+1:Nat):Int):=by unfold dueF;rw[he];rfl
    refine fin _ hd.symm _ (Seen.objs rfl fun q o2 h=> ?_)
    match q,h with
    |0,h=>cases h;exact⟨_,rfl,rfl,fun _ _ _ h=>h⟩
    |1,h=>cases h;exact⟨_,rfl,rfl,fun _ _ _ h=>h⟩
    |2,h=>cases h;exact⟨_,rfl,rfl,fun _ _ _ h=>h⟩
    |3,h=>cases h;exact⟨_,rfl,rfl,fun _ _ _ h=>h⟩
    |4,h=>cases h;exact⟨_,rfl,rfl,fun _ _ _ h=>h⟩
    |5,h=>cases h;exact⟨_,rfl,rfl,fun _ _ _ h=>h⟩
    |6,h=>cases h;exact⟨_,rfl,rfl,fun _ _ _ h=>h⟩
    |7,h=>cases h;exact⟨_,rfl,rfl,fun _ _ _ h=>h⟩
    |8,h=>
     cases h
     exact⟨_,rfl,rfl,fun _ _ _ h=>k6_ (α:=Im) (l:=[]) (a:=⟨1,⟨2,viK l n,0⟩,false⟩) rfl rfl (fun _ _=>rfl) (fun j hj=>by
      have hj:j<5:=hj
      match j,hj with
      |0,_=>rfl
      |1,_=>rfl
      |2,_=>rfl
      |3,_=>rfl
      |4,_=>rfl) h⟩
    |_+9,h=>cases h
 ·refine(adR_ l c n se i k nu ad ev du mo vi ins out sub β _).mpr ?_
  try dsimp only
  rw[hb1,hb2,g1.all,g1.d]
  cases k with
  |zero=>
   refine a0_ (fun h=>by simp at h) (fun _=> ?_)
   have g4:(w1 nu ad ev du mo vi,n)=r:=g4
   subst g4
   exact Nn.exit (Seen.refl _ _ _) hK
  |succ k=>
   have hw:IntKind.wrap .i64 (((k+1:Nat):Int)-1)=(k:Int):=by rw[w64 (by omega) (by omega)];omega
   have ht:IntKind.wrap .i64 (10*((k+1:Nat):Int))=10*((k+1:Nat):Int):=w64 (by omega) (by omega)
   have hg4:wkL l k (numF l n 13).2 (w1 nu ad ev du mo vi)=r:=g4
   rw[hw,ht]
   refine a0_ (fun _=> ?_) (fun h=>by simp at h)
   refine nd_ rfl (nd_ rfl (a0_ (fun _=> ?_) (fun h=>by simp at h;omega)))
   exact Nn.next (I:=IMd4 l nu ad ev mo r) (m:=fun p:PM4=>p.k) (F:=fun p:PM4=>FMd4 i (p.k:Nat)) (S:=fun p:PM4=>SMd4 l c p.n se ins out sub p.w) (p:=⟨k+1,n,w1 nu ad ev du mo vi⟩) ⟨k,(numF l n 13).2,w1 nu ad ev du mo vi⟩ ⟨nok (by omega),by show k≤3;omega,.inr ⟨_,_,rfl,by show 10*(k:Int)<_;omega⟩,hg4⟩ (Nat.lt_succ_self _) (Seen.refl _ _ _)
end Go.Proofs.YtachglcffimmeaaGreat.Ev
end
