/-
  Sessions that are made, sessions to which bytes came: what holds of them; what is the same as itself.
-/
import Derived.Test.YtachglcffimmeaaGreatQ33
import Derived.Test.YtachglcffimmeaaGreatQ37
set_option linter.unusedVariables false
set_option linter.unusedSimpArgs false
set_option maxRecDepth 1000000
namespace Go.Proofs.YtachglcffimmeaaGreat.Ev
open Go Go.Proofs Go.RowKit
theorem aij_(l:List U8):(putL l).length≤206:=by
 unfold putL;split
 ·simp
 ·rw[l2_];omega
theorem alD_{l:List U8}(h:l.all (okA U8)=true):(putL l).all (okA U8)=true:=by
 unfold putL;split
 ·rfl
 ·exact W3_ h
theorem afj_{l:List U8}: ∀(r:Nat) (n:Int) (ps:List St),(paL l r n ps).1.length=ps.length+r
 |0,n,ps=>rfl
 |r+1,n,ps=>by
  show(paL l r _ _).1.length=_
  rw[afj_ r];simp;omega
theorem adv_{l:List U8}: ∀(r:Nat) (n:Int) (ps:List St) (vs:List Vl),(wrL l r n ps vs).1.length=ps.length+r∧(wrL l r n ps vs).2.1.length=vs.length+r
 |0,n,ps,vs=>⟨rfl,rfl⟩
 |r+1,n,ps,vs=>by
  obtain⟨h1,h2⟩:=adv_ (l:=l) r (wrV l n).2 (ps++[C6_.getD (numF l n 6).1.toNat Enc.dflt]) (vs++[(wrV l n).1])
  refine⟨?_,?_⟩
  ·show(wrL l r _ _ _).1.length=_
   rw[h1];simp;omega
  ·show(wrL l r _ _ _).2.1.length=_
   rw[h2];simp;omega
theorem ajj_{l:List U8}{n:Int}(id:Int)(hp:PkOk l n):(askM l id n).1.ps.length≤3∧(askM l id n).1.vs.length≤3:=by
 have h5:=(nF_ (m:=5) hp (by omega)).2.2
 unfold askM
 cases((numF l n 5).1==0)with
 |true=>
  have:=(nF_ (m:=3) h5 (by omega)).2.1
  refine⟨?_,by show 0≤3;omega⟩
  show(paL l _ _ _).1.length≤3
  rw[afj_];simp;omega
 |false=>
  cases((numF l n 5).1==1)with
  |true=>
   have:=(nF_ (m:=2) h5 (by omega)).2.1
   obtain⟨h1,h2⟩:=adv_ (l:=l) ((numF l (numF l n 5).2 2).1+1).toNat (numF l (numF l n 5).2 2).2 [] []
   refine⟨?_,?_⟩
   ·show(wrL l _ _ _ _).1.length≤3
    rw[h1];simp;omega
   ·show(wrL l _ _ _ _).2.1.length≤3
    rw[h2];simp;omega
  |false=>
   cases((numF l n 5).1==2)with
   |true=>exact⟨by show 0≤3;omega,by show 0≤3;omega⟩
   |false=>
    cases((numF l n 5).1==3)with
    |true=>exact⟨by show 1≤3;omega,by show 0≤3;omega⟩
    |false=>exact⟨by show 0≤3;omega,by show 0≤3;omega⟩
theorem akv_(l:List St):l.all (okA St)=true:=List.all_eq_true.2 fun _ _=>rfl
theorem aku_(l:List Vl):l.all (okA Vl)=true:=List.all_eq_true.2 fun _ _=>rfl
theorem apg_(l:List Im):l.all (okA Im)=true:=List.all_eq_true.2 fun _ _=>rfl
theorem amW_{m:Ms}(h1:m.ps.length≤1000000)(h2:m.vs.length≤1000000):okA Ms (capM m)=true:=V7_ (akv_ _) h1 (Nat.le_refl _) (aku_ _) h2 (Nat.le_refl _)
theorem aay_{l:List U8}: ∀(r:Nat) (n:Int) (x:List Ms),PkOk l n→x.all (okA Ms)=true→(inL l r n x).1.all (okA Ms)=true∧(inL l r n x).1.length=x.length+r
 |0,n,x,h,hx=>⟨hx,rfl⟩
 |r+1,n,x,h,hx=>by
  obtain⟨a1,a2⟩:=ajj_ ((r+1:Nat):Int) h
  obtain⟨h1,h2⟩:=aay_ r (askM l ((r+1:Nat):Int) n).2 (x++[capM (askM l ((r+1:Nat):Int) n).1]) (aaW_ _ h) (by rw[List.all_append,hx,List.all_cons,amW_ (by omega) (by omega)];rfl)
  exact⟨h1,by show(inL l r _ _).1.length=_;rw[h2];simp;omega⟩
theorem afm_{l:List U8}: ∀(r:Nat) (n:Int) (x:List Ms),PkOk l n→x.all (okA Ms)=true→(ouL l r n x).1.all (okA Ms)=true∧(ouL l r n x).1.length=x.length+r
 |0,n,x,h,hx=>⟨hx,rfl⟩
 |r+1,n,x,h,hx=>by
  have ha:okA Ms (anM l ((r+1:Nat):Int) n)=true:=V7_ (akv_ _) (by show 0≤1000000;omega) (Nat.le_refl _) (aku_ _) (by show 1≤1000000;omega) (by show 0≤1;omega)
  obtain⟨h1,h2⟩:=afm_ r (anV l n).2 (x++[anM l ((r+1:Nat):Int) n]) (aha_ h) (by rw[List.all_append,hx,List.all_cons,ha];rfl)
  exact⟨h1,by show(ouL l r _ _).1.length=_;rw[h2];simp;omega⟩
theorem adx_{l:List U8}: ∀(k:Nat) (n:Int) (w:Wt),w.qu.length≤1→w.cqu≤1→(wkL l k n w).1.qu.length≤1∧(wkL l k n w).1.cqu≤1
 |0,n,w,h1,h2=>⟨h1,h2⟩
 |k+1,n,w,h1,h2=>by
  refine adx_ k _ _ ?_ ?_
  ·cases w.ha with
   |true=>exact h1
   |false=>exact Nat.le_refl _
  ·cases w.ha with
   |true=>exact h2
   |false=>exact Nat.zero_le _
theorem ael_{l:List U8}: ∀(r:Nat) (n:Int) (x:List Wt),PkOk l n→x.all (okA Wt)=true→(suL l r n x).1.all (okA Wt)=true∧(suL l r n x).1.length=x.length+r
 |0,n,x,h,hx=>⟨hx,rfl⟩
 |r+1,n,x,h,hx=>by
  obtain⟨a1,a2⟩:=adx_ (l:=l) (nuK l n).1.toNat (nuK l n).2 (nwW l ((r+1:Nat):Int) n) (by show 0≤1;omega) (by show 1≤1;omega)
  have ha:okA Wt (suC l ((r+1:Nat):Int) n).1=true:=akf_ (apg_ _) (by show(wkL l _ _ _).1.qu.length≤_;omega) a2
  obtain⟨h1,h2⟩:=ael_ r (suC l ((r+1:Nat):Int) n).2 (x++[(suC l ((r+1:Nat):Int) n).1]) (ajS_ _ h) (by rw[List.all_append,hx,List.all_cons,ha];rfl)
  exact⟨h1,by show(suL l r _ _).1.length=_;rw[h2];simp;omega⟩
structure GdS (s:Ss):Prop where
 ok:okA Ss s=true
 fb:s.fb.length≤205
 ins:s.ins.length≤1000
 out:s.out.length≤1000
 sub:s.sub.length≤1000
theorem GdS.fitS{s:Ss}(h:GdS s):fitS s=true:=by
 unfold Ev.fitS
 rw[Nat.ble_eq_true_of_le (show s.ins.length≤100000 by have:=h.ins;omega),Nat.ble_eq_true_of_le (show s.out.length≤100000 by have:=h.out;omega),Nat.ble_eq_true_of_le (show s.sub.length≤100000 by have:=h.sub;omega)];rfl
theorem GdS.fitC{s:Ss}(h:GdS s){b:List U8}(hb:b.all (okA U8)=true)(hl:b.length≤100000):fitC s b=true:=by
 unfold Ev.fitC
 rw[h.fitS,Nat.ble_eq_true_of_le h.fb,Nat.ble_eq_true_of_le hl,hb,Nat.ble_eq_true_of_le (show s.ins.length≤100000 by have:=h.ins;omega)];rfl
theorem amk_{l:List U8}(h1:l.all (okA U8)=true)(h2:l.length≤1000000):GdS (f4_ l):=by
 have hp0:PkOk l 0:=⟨h1,h2,Int.le_refl _⟩
 obtain⟨s0,s1,p1⟩:=nF_ (m:=9) hp0 (by omega)
 obtain⟨i0,i1,p2⟩:=nF_ (m:=4) p1 (by omega)
 obtain⟨a1,a2⟩:=aay_ (i0P l).1.toNat (i0P l).2 [] p2 rfl
 have p3:PkOk l (inP l).2:=afN_ _ _ _ p2
 obtain⟨o0,o1,p4⟩:=nF_ (m:=3) p3 (by omega)
 obtain⟨b1,b2⟩:=afm_ (o0P l).1.toNat (o0P l).2 [] p4 rfl
 have p5:PkOk l (ouP l).2:=afl_ _ _ _ p4
 obtain⟨u0,u1,p6⟩:=nF_ (m:=4) p5 (by omega)
 obtain⟨c1,c2⟩:=ael_ (s0P l).1.toNat (s0P l).2 [] p6 rfl
 have a2:(inP l).1.length=0+(i0P l).1.toNat:=a2
 have b2:(ouP l).1.length=0+(o0P l).1.toNat:=b2
 have c2:(suP l).1.length=0+(s0P l).1.toNat:=c2
 have i1:(i0P l).1<4:=i1
 have o1:(o0P l).1<3:=o1
 have u1:(s0P l).1<4:=u1
 refine⟨akg_ rfl (by show 0≤1000000;omega) (by show 1≤1;omega) a1 (by show(inP l).1.length≤_;omega) (Nat.le_refl _) b1 (by show(ouP l).1.length≤_;omega) (Nat.le_refl _) c1 (by show(suP l).1.length≤_;omega) (Nat.le_refl _),by show 0≤205;omega,by show(inP l).1.length≤_;omega,by show(ouP l).1.length≤_;omega,by show(suP l).1.length≤_;omega⟩
theorem J4_(a:Nat):j6_ a a=true:=decide_eq_true rfl
theorem S8_(v:Vl):i6_ v v=true:=by simp[i6_,J4_]
theorem n6_(l:List Vl):e8_ l l=true:=by simp[e8_,S8_]
theorem m0_(l:List St):r8_ l l=true:=by simp[r8_]
theorem b0ne(x:Int):((0:Int) !=x)= !(x==0):=by
 unfold bne
 congr 1
 rw[Bool.eq_iff_iff,beq_iff_eq,beq_iff_eq]
 exact⟨fun h=>h.symm,fun h=>h.symm⟩
theorem b0eq(x:Int):((0:Int)==x)=(x==0):=by
 rw[Bool.eq_iff_iff,beq_iff_eq,beq_iff_eq]
 exact⟨fun h=>h.symm,fun h=>h.symm⟩
theorem adh_(x:Int):(x !=x)=false:=by simp
theorem vs0(l:List Vl):e8_ [] l=(Int.ofNat l.length==0):=by
 unfold e8_
 rw[Bool.eq_iff_iff]
 cases l<;>simp
 omega
theorem ps0(l:List St):(Int.ofNat ([]:List St).length !=Int.ofNat l.length)= !(Int.ofNat l.length==0):=by
 show((0:Int) !=_)=_
 exact b0ne _
theorem bd0(v:Vl)(X:Bool):cond ((0:Int)==v.k) (cond ((0:Int)==v.i) (cond (!(j6_ 0 v.f)) false X) false) false=(zQ v&&X):=by
 unfold zQ
 rw[zN,b0eq,b0eq]
 cases v.k==0<;>cases v.i==0<;>cases(Int.ofNat (bitsN v.f)==0)<;>rfl
theorem sm1{m:Ms}(h:m.k=1):c9_ (f9_ m) m=(m.n==0&&m.sq==0&&m.er==0&& !m.lo&&m.ev==0&&zQ m.bd&&Int.ofNat m.vs.length==0):=by
 have hb:f9_ m=⟨m.k,m.id,0,0,0,false,0,zV,m.ps,m.cps,[],1⟩:=by unfold f9_;rw[h];rfl
 rw[hb]
 unfold c9_
 simp only[adh_,cond_false,b0ne,vs0,m0_]
 show(cond (!(m.er==0)) false (cond (!(m.n==0)) false (cond (!(m.sq==0)) false (cond (!(false==m.lo)) false (cond (!(m.ev==0)) false (cond ((0:Int)==m.bd.k) (cond ((0:Int)==m.bd.i) (cond (!(j6_ 0 m.bd.f)) false (cond (!(Int.ofNat m.vs.length==0)) false true)) false) false)))))=_)
 rw[bd0]
 cases m.er==0<;>cases m.n==0<;>cases m.sq==0<;>cases m.lo<;>cases m.ev==0<;>cases zQ m.bd<;>cases(Int.ofNat m.vs.length==0)<;>rfl
theorem sm2{m:Ms}(h:m.k=2):c9_ (f9_ m) m=(m.n==0&&m.sq==0&&m.er==0&& !m.lo&&m.ev==0&&zQ m.bd):=by
 have hb:f9_ m=⟨m.k,m.id,0,0,0,false,0,zV,m.ps,m.cps,m.vs,m.cvs⟩:=by unfold f9_;rw[h];rfl
 rw[hb]
 unfold c9_
 simp only[adh_,cond_false,b0ne,n6_,m0_]
 show(cond (!(m.er==0)) false (cond (!(m.n==0)) false (cond (!(m.sq==0)) false (cond (!(false==m.lo)) false (cond (!(m.ev==0)) false (cond ((0:Int)==m.bd.k) (cond ((0:Int)==m.bd.i) (cond (!(j6_ 0 m.bd.f)) false true) false) false)))))=_)
 rw[bd0]
 cases m.er==0<;>cases m.n==0<;>cases m.sq==0<;>cases m.lo<;>cases m.ev==0<;>cases zQ m.bd<;>rfl
theorem sm35{m:Ms}(h:m.k=3∨m.k=5):c9_ (f9_ m) m=(m.sq==0&&m.er==0&& !m.lo&&m.ev==0&&zQ m.bd&&Int.ofNat m.ps.length==0&&Int.ofNat m.vs.length==0):=by
 have hb:f9_ m=⟨m.k,m.id,0,m.n,0,false,0,zV,[],1,[],1⟩:=by unfold f9_;rcases h with h|h<;>(rw[h];rfl)
 rw[hb]
 unfold c9_
 simp only[adh_,cond_false,b0ne,vs0,ps0]
 show(cond (!(m.er==0)) false (cond (!(m.sq==0)) false (cond (!(false==m.lo)) false (cond (!(m.ev==0)) false (cond ((0:Int)==m.bd.k) (cond ((0:Int)==m.bd.i) (cond (!(j6_ 0 m.bd.f)) false (cond (!(Int.ofNat m.vs.length==0)) false (cond (!(Int.ofNat m.ps.length==0)) false true))) false) false))))=_)
 rw[bd0]
 cases m.er==0<;>cases m.sq==0<;>cases m.lo<;>cases m.ev==0<;>cases zQ m.bd<;>cases(Int.ofNat m.vs.length==0)<;>cases(Int.ofNat m.ps.length==0)<;>rfl
theorem sm6{m:Ms}(h:m.k=6):c9_ (f9_ m) m=(m.sq==0&& !m.lo&&m.ev==0&&zQ m.bd):=by
 have hb:f9_ m=⟨m.k,m.id,m.er,m.n,0,false,0,zV,m.ps,m.cps,m.vs,m.cvs⟩:=by unfold f9_;rw[h];rfl
 rw[hb]
 unfold c9_
 simp only[adh_,cond_false,b0ne,n6_,m0_]
 show(cond (!(m.sq==0)) false (cond (!(false==m.lo)) false (cond (!(m.ev==0)) false (cond ((0:Int)==m.bd.k) (cond ((0:Int)==m.bd.i) (cond (!(j6_ 0 m.bd.f)) false true) false) false)))=_)
 rw[bd0]
 cases m.sq==0<;>cases m.lo<;>cases m.ev==0<;>cases zQ m.bd<;>rfl
theorem sm7{m:Ms}(h:m.k=7):c9_ (f9_ m) m=(m.id==0&&m.er==0&&m.ev==0&&zQ m.bd&&Int.ofNat m.ps.length==0):=by
 have hb:f9_ m=⟨m.k,0,0,m.n,m.sq,m.lo,0,zV,[],1,m.vs,m.cvs⟩:=by unfold f9_;rw[h];rfl
 rw[hb]
 unfold c9_
 simp only[adh_,cond_false,b0ne,n6_,ps0,beq_self_eq_true,Bool.not_true]
 show(cond (!(m.id==0)) false (cond (!(m.er==0)) false (cond (!(m.ev==0)) false (cond ((0:Int)==m.bd.k) (cond ((0:Int)==m.bd.i) (cond (!(j6_ 0 m.bd.f)) false (cond (!(Int.ofNat m.ps.length==0)) false true)) false) false)))=_)
 rw[bd0]
 cases m.id==0<;>cases m.er==0<;>cases m.ev==0<;>cases zQ m.bd<;>cases(Int.ofNat m.ps.length==0)<;>rfl
theorem sm4{m:Ms}(h:m.k=4):c9_ (f9_ m) m=(m.sq==0&&m.er==0&& !m.lo&&Int.ofNat m.vs.length==0):=by
 have hb:f9_ m=⟨m.k,m.id,0,m.n,0,false,m.ev,m.bd,m.ps,m.cps,[],1⟩:=by unfold f9_;rw[h];rfl
 rw[hb]
 unfold c9_
 simp only[adh_,cond_false,b0ne,vs0,m0_,beq_self_eq_true,cond_true,J4_,Bool.not_true]
 cases m.er==0<;>cases m.sq==0<;>cases m.lo<;>cases(Int.ofNat m.vs.length==0)<;>rfl
theorem dlt(x y:Int):decide (x<y)= !decide (x≥y):=by
 by_cases h:x<y
 ·rw[decide_eq_true h,decide_eq_false (by omega)];rfl
 ·rw[decide_eq_false h,decide_eq_true (by omega)];rfl
theorem dgt(x y:Int):decide (x>y)= !decide (x≤y):=by
 by_cases h:x>y
 ·rw[decide_eq_true h,decide_eq_false (by omega)];rfl
 ·rw[decide_eq_false h,decide_eq_true (by omega)];rfl
theorem ami_{m:Ms}(hv: ∀v∈m.vs,v.k≠5→v.f=0)(hb:m.bd.k≠5→m.bd.f=0):mayM m=(decide (m.k≥1)&&decide (m.k≤7)&&tlQ m&&c9_ (f9_ m) m):=by
 rw[aol_ hv hb]
 unfold mayM
 rw[dlt m.k,dgt m.k,dlt m.ev,dgt m.ev,dlt m.er,dgt m.er]
 cases decide (m.k≥1)<;>cases decide (m.k≤7)<;>try rfl
 cases insB m.id<;>cases insB m.n<;>try rfl
 cases insB m.sq<;>cases decide (m.ev≥0)<;>try rfl
 cases decide (m.ev≤1125899906842624)<;>cases decide (m.er≥0)<;>try rfl
 cases decide (m.er≤13)<;>cases decide (Int.ofNat m.ps.length>5)<;>try rfl
 cases decide (Int.ofNat m.vs.length>5)<;>cases pOkB m<;>try rfl
 cases vOkB m<;>cases bdOk m.bd<;>rfl
theorem aqh_{m:Ms}(hv: ∀v∈m.vs,v.k≠5→v.f=0)(hb:m.bd.k≠5→m.bd.f=0):mayQ m=mayM m:=by
 rw[ami_ hv hb]
 by_cases h1:m.k=1
 ·rw[sm1 h1];unfold mayQ;rw[h1]
  cases m.n==0<;>cases m.sq==0<;>cases m.er==0<;>cases m.lo<;>cases m.ev==0<;>cases zQ m.bd<;>cases(Int.ofNat m.vs.length==0)<;>cases tlQ m<;>rfl
 by_cases h2:m.k=2
 ·rw[sm2 h2];unfold mayQ;rw[h2]
  cases m.n==0<;>cases m.sq==0<;>cases m.er==0<;>cases m.lo<;>cases m.ev==0<;>cases zQ m.bd<;>cases tlQ m<;>rfl
 by_cases h3:m.k=3
 ·rw[sm35 (.inl h3)];unfold mayQ;rw[h3]
  cases m.sq==0<;>cases m.er==0<;>cases m.lo<;>cases m.ev==0<;>cases zQ m.bd<;>cases(Int.ofNat m.ps.length==0)<;>cases(Int.ofNat m.vs.length==0)<;>cases tlQ m<;>rfl
 by_cases h4:m.k=4
 ·rw[sm4 h4];unfold mayQ;rw[h4]
  cases m.sq==0<;>cases m.er==0<;>cases m.lo<;>cases(Int.ofNat m.vs.length==0)<;>cases tlQ m<;>rfl
 by_cases h5:m.k=5
 ·rw[sm35 (.inr h5)];unfold mayQ;rw[h5]
  cases m.sq==0<;>cases m.er==0<;>cases m.lo<;>cases m.ev==0<;>cases zQ m.bd<;>cases(Int.ofNat m.ps.length==0)<;>cases(Int.ofNat m.vs.length==0)<;>cases tlQ m<;>rfl
 by_cases h6:m.k=6
 ·rw[sm6 h6];unfold mayQ;rw[h6]
  cases m.sq==0<;>cases m.lo<;>cases m.ev==0<;>cases zQ m.bd<;>cases tlQ m<;>rfl
 by_cases h7:m.k=7
 ·rw[sm7 h7];unfold mayQ;rw[h7]
  cases m.id==0<;>cases m.er==0<;>cases m.ev==0<;>cases zQ m.bd<;>cases(Int.ofNat m.ps.length==0)<;>cases tlQ m<;>rfl
 have e: ∀k:Int,m.k≠k→(m.k==k)=false:=fun k h=>by simpa using h
 have hk:(decide (m.k≥1)&&decide (m.k≤7))=false:=by
  rw[Bool.and_eq_false_iff]
  by_cases h:m.k≥1
  ·exact .inr (decide_eq_false (by omega))
  ·exact .inl (decide_eq_false h)
 rw[hk]
 unfold mayQ
 rw[e 1 h1,e 2 h2,e 3 h3,e 4 h4,e 5 h5,e 6 h6,e 7 h7];rfl
theorem aii_{m:Ms}(hv: ∀v∈m.vs,v.k≠5→v.f=0)(hb:m.bd.k≠5→m.bd.f=0):putQ m=pmL m:=by
 unfold putQ pmL
 rw[aqh_ hv hb]
theorem aow_{L:List U8}(s:RT):(rvV L s).k≠5→(rvV L s).f=0:=by
 intro h
 have hk:rvK L s≠5:=h
 show rvG L s=0
 have e5:(rvK L s==5)=false:=by simpa using hk
 unfold rvG
 rw[e5]
 cases rvK L s==0<;>cases rvK L s==1<;>cases rvK L s==2<;>cases rvK L s==3<;>cases rvK L s==4<;>rfl
theorem any_{L:List U8}: ∀(r:Nat) (s:RT) (vs:List Vl),(∀v∈vs,v.k≠5→v.f=0)→ ∀v∈(vsL L r s vs).1,v.k≠5→v.f=0
 |0,s,vs,h=>h
 |r+1,s,vs,h=>by
  unfold vsL
  cases s.q with
  |true=>exact h
  |false=>
   refine any_ r _ _ fun v hv=> ?_
   rcases List.mem_append.1 hv with h1|h1
   ·exact h v h1
   ·rw[List.mem_singleton]at h1
    subst h1
    exact aow_ _
theorem abE_(L:List U8):putQ (msT L)=pmL (msT L):=aii_ (any_ _ _ [] (fun v h=>by cases h)) (aow_ (t7 L))
theorem anz_{L:List U8}(hL:L.all (okA U8)=true): ∀(r n:Nat) (vs ws:List Vl) (k:Nat),vfL L r n vs=some (ws,k)→vsL L r ⟨n,false⟩ vs=(ws,⟨k,false⟩)
 |0,n,vs,ws,k,h=>by cases h;rfl
 |r+1,n,vs,ws,k,h=>by
  unfold vfL at h
  cases hb:vbF L n with
  |true=>rw[hb]at h;cases h
  |false=>
   rw[hb]at h
   have hb':(Nat.blt n 1||(frF L n||(fsF L n|| !tkQ (fkF L n) (fpF L n))))=false:=hb
   rw[Bool.or_eq_false_iff,Bool.or_eq_false_iff,Bool.or_eq_false_iff]at hb'
   obtain⟨b1,b2,b3,b4⟩:=hb'
   have b4:tkQ (fkF L n) (fpF L n)=true:=by simpa using b4
   have h0:(fkF L n==0)=false:=by
    unfold frF at b2
    rw[Bool.or_eq_false_iff]at b2
    have:=of_decide_eq_false b2.1
    rw[Bool.eq_false_iff]
    intro e
    have:=eq_of_beq e
    omega
   have e1:=M8_ hL b1 h0 b2 b3
   have e2:=M7_ hL b1 h0 b2 b3 b4
   have:=anz_ hL r _ _ ws k h
   unfold vsL
   rw[e1,e2]
   exact this
theorem L7_{L:List U8}{n w:Nat}(h:Nat.blt n w=false):(⟨n,false⟩:RT).vl w L=hfK L n w:=by
 show vlK w L n false=_
 unfold vlK
 rw[p7_,h];rfl
theorem afg_{L:List U8}(n:Nat):ptB L ⟨n,false⟩=pbF L n:=by
 unfold ptB pbF
 show(bdK 1 n false||_)=_
 rw[p7_]
 cases h:Nat.blt n 1 with
 |true=>rfl
 |false=>
  have:vlK 1 L n false=fkF L n:=n8_ h
  show(false||decide (vlK 1 L n false>Int.ofNat (n-1)))=_
  rw[this]
theorem pt_s{L:List U8}{n:Nat}(h:pbF L n=false):ptS L ⟨n,false⟩=⟨n-1-kbF L n,false⟩:=by
 have hb:Nat.blt n 1=false:=by unfold pbF at h;rw[Bool.or_eq_false_iff]at h;exact h.1
 have:vlK 1 L n false=fkF L n:=n8_ hb
 unfold ptS
 rw[afg_,h]
 show(⟨n-1-(vlK 1 L n false).toNat,false⟩:RT)=_
 rw[this];rfl
theorem pt_v{L:List U8}{n:Nat}(h:pbF L n=false):ptV L ⟨n,false⟩=pvF' L n:=by
 have hb:Nat.blt n 1=false:=by unfold pbF at h;rw[Bool.or_eq_false_iff]at h;exact h.1
 have:vlK 1 L n false=fkF L n:=n8_ hb
 unfold ptV
 rw[afg_,h]
 show(⟨j5_ (vlK 1 L n false).toNat fun j=>encL L (rdI L.length (n-1) (bdK 1 n false)+j)⟩:St)=_
 rw[this,p7_,hb];rfl
theorem abG_{L:List U8}: ∀(r n:Nat) (ps:List St),match pfL L r n ps with
  |some (ws,k)=>psL L r ⟨n,false⟩ ps=(ws,⟨k,false⟩)
  |none=>(psL L r ⟨n,false⟩ ps).2.q=true
 |0,n,ps=>rfl
 |r+1,n,ps=>by
  unfold pfL psL
  show match cond (pbF L n) none (pfL L r (n-1-kbF L n) (ps++[pvF' L n]))with
   |some (ws,k)=>psL L r (ptS L ⟨n,false⟩) (ps++[ptV L ⟨n,false⟩])=(ws,⟨k,false⟩)
   |none=>(psL L r (ptS L ⟨n,false⟩) (ps++[ptV L ⟨n,false⟩])).2.q=true
  cases h:pbF L n with
  |true=>
   show(psL L r (ptS L ⟨n,false⟩) (ps++[ptV L ⟨n,false⟩])).2.q=true
   refine aoD_ r _ _ ?_
   unfold ptS
   rw[afg_,h];rfl
  |false=>
   rw[pt_s h,pt_v h]
   exact abG_ r _ _
theorem acw_(n:Nat)(f:Nat→Nat→Td):(j5_ n f).size=n:=by
 show(((List.range n).map fun j=>v8_ (f j 0)).toArray).size=n
 simp
theorem aka_{L:List U8}: ∀(r n:Nat) (ps ws:List St) (k:Nat),pfL L r n ps=some (ws,k)→ ∃xs,ws=ps++xs∧xs.length=r∧k+(xs.flatMap ptL).length=n
 |0,n,ps,ws,k,h=>by cases h;exact⟨[],by simp,rfl,by simp⟩
 |r+1,n,ps,ws,k,h=>by
  unfold pfL at h
  cases hb:pbF L n with
  |true=>rw[hb]at h;cases h
  |false=>
   rw[hb]at h
   obtain⟨xs,h1,h2,h3⟩:=aka_ r _ _ ws k h
   unfold pbF at hb
   rw[Bool.or_eq_false_iff]at hb
   have hn:=s1_ hb.1
   have hk:=of_decide_eq_false hb.2
   rw[Int.ofNat_eq_natCast]at hk
   have hs:(ptL (pvF' L n)).length=kbF L n+1:=by
    rw[N7_]
    show(j5_ _ _).size+1=_
    rw[acw_]
   have hk2:kbF L n≤n-1:=by unfold kbF;omega
   refine⟨pvF' L n::xs,by rw[h1];simp,by simp[h2],?_⟩
   rw[List.flatMap_cons,List.length_append,hs]
   omega
theorem aeD_{v:Vl}(h:v.k=1∨v.k=2∨v.k=3∨v.k=4∨v.k=5):(rwL v).length=wiK v.k:=by
 unfold rwL
 rcases h with h|h|h|h|h<;>(rw[h];rfl)
theorem aiG_{L:List U8}{i w:Nat}(h:i+w≤L.length):mdL L i w=(L.drop i).take w:=by
 unfold mdL
 refine List.ext_getElem (by simp;omega) fun j h1 h2=> ?_
 have hj:j<w:=by simpa using h1
 have hl:i+j<L.length:=by omega
 simp[List.getD,hl]
theorem aov_{L:List U8}{n:Nat}(hL:L.all (okA U8)=true)(h:Nat.blt n 1=false)(h0:(fkF L n==0)=false)(hr:frF L n=false)(hs:fsF L n=false)(hm:mvB (rvV L ⟨n,false⟩).k (rvV L ⟨n,false⟩).i (rvV L ⟨n,false⟩).f=true):rvV L ⟨n,false⟩=tkV (fkF L n) (fpF L n):=by
 have e:=n8_ (L:=L) h
 have hc:=r4_ hL h0 hr
 obtain⟨u1,u2,u4,u8⟩:=ajO_ L (L.length-(n-1))
 have hI:rvI L ⟨n,false⟩=tkI (fkF L n) (fpF L n):=by
  have hm:mvB (rvK L ⟨n,false⟩) (rvI L ⟨n,false⟩) (rvG L ⟨n,false⟩)=true:=hm
  unfold rvI at hm ⊢
  unfold tkI
  rw[e]at hm ⊢
  unfold fsF at hs
  rcases hc with hc|hc|hc|hc|hc
  ·rw[fp_w hc,hc]
   rw[hc]at hs hm
   have hv:=k4_ (L:=L) (w:=1) h hs
   show((⟨n,false⟩:RT).nx 1).vl 1 L=wrF 1 (IntKind.wrap .i64 (tkU (mdL L (L.length-(n-1)) 1):Int))
   have hm:(true&&true&&(Int.ofNat (bitsN (rvG L ⟨n,false⟩))==0)&&(wrF 1 (((⟨n,false⟩:RT).nx 1).vl 1 L)==((⟨n,false⟩:RT).nx 1).vl 1 L))=true:=hm
   rw[Bool.and_eq_true]at hm
   have hm:=eq_of_beq hm.2
   rw[hv]at hm ⊢
   rw[u1]
   exact hm.symm
  ·rw[fp_w hc,hc]
   rw[hc]at hs
   have hv:=k4_ (L:=L) (w:=2) h hs
   show IntKind.wrap .i64 (IntKind.wrap .i16 (((⟨n,false⟩:RT).nx 1).vl 2 L))=wrF 2 (IntKind.wrap .i64 (tkU (mdL L (L.length-(n-1)) 2):Int))
   rw[hv,u2]
   exact ajD_ _
  ·rw[fp_w hc,hc]
   rw[hc]at hs
   have hv:=k4_ (L:=L) (w:=4) h hs
   show IntKind.wrap .i64 (IntKind.wrap .i32 (((⟨n,false⟩:RT).nx 1).vl 4 L))=wrF 3 (IntKind.wrap .i64 (tkU (mdL L (L.length-(n-1)) 4):Int))
   rw[hv,u4]
   exact ajC_ _
  ·rw[fp_w hc,hc]
   rw[hc]at hs
   have hv:=k4_ (L:=L) (w:=8) h hs
   show((⟨n,false⟩:RT).nx 1).vl 8 L=wrF 4 (IntKind.wrap .i64 (tkU (mdL L (L.length-(n-1)) 8):Int))
   rw[hv,u8];rfl
  ·rw[hc];rfl
 have hG:rvG L ⟨n,false⟩=tkF (fkF L n) (fpF L n):=by
  unfold rvG tkF
  rw[e]
  unfold fsF at hs
  rcases hc with hc|hc|hc|hc|hc
  ·rw[hc];rfl
  ·rw[hc];rfl
  ·rw[hc];rfl
  ·rw[hc];rfl
  ·rw[fp_w hc,hc]
   rw[hc]at hs
   have hv:=k4_ (L:=L) (w:=8) h hs
   have hb:=p6_ hL (L.length-(n-1)) 8
   show Int.toNat (IntKind.wrap .u64 (((⟨n,false⟩:RT).nx 1).vl 8 L))=tkU (mdL L (L.length-(n-1)) 8)
   rw[hv,u8]
   have: ∀x:Nat,x<18446744073709551616→IntKind.wrap .u64 (IntKind.wrap .i64 (x:Int))=x:=fun x hx=>by
    unfold IntKind.wrap
    simp[IntKind.signed,IntKind.bits]
    omega
   rw[this _ hb];rfl
 unfold rvV tkV
 rw[e,hI,hG]
theorem ajP_{L X:List U8}{n:Nat}(hL:L.all (okA U8)=true)(hn:n≤L.length)(h:Nat.blt n 1=false)(h0:(fkF L n==0)=false)(hr:frF L n=false)(hs:fsF L n=false)(hm:mvB (rvV L ⟨n,false⟩).k (rvV L ⟨n,false⟩).i (rvV L ⟨n,false⟩).f=true)(hd:L.drop (L.length-n)=pvL (rvV L ⟨n,false⟩)++X):tkQ (fkF L n) (fpF L n)=true∧(pvL (rvV L ⟨n,false⟩)).length=1+wiK (fkF L n):=by
 have hc:=r4_ hL h0 hr
 have hv:=aov_ hL h h0 hr hs hm
 have e:=n8_ (L:=L) h
 have hk:(rvV L ⟨n,false⟩).k=fkF L n:=e
 have hn1:=s1_ h
 have hw:wiK (fkF L n)≤n-1:=by
  unfold fsF at hs
  rw[Bool.eq_false_iff]at hs
  have: ¬(n-1<wiK (fkF L n)):=fun h=>hs (by simp;omega)
  omega
 have hrl:=aeD_ (v:=rvV L ⟨n,false⟩) (by rw[hk];exact hc)
 rw[hk]at hrl
 have hp:fpF L n=rwL (rvV L ⟨n,false⟩):=by
  unfold fpF
  rw[aiG_ (by omega)]
  have:L.drop (L.length-(n-1))=(L.drop (L.length-n)).drop 1:=by
   rw[List.drop_drop]
   congr 1
   omega
  rw[this,hd,aeZ_]
  show(rwL (rvV L ⟨n,false⟩)++X).take (wiK (fkF L n))=_
  rw[←hrl,List.take_left']
  rfl
 constructor
 ·unfold tkQ
  rw[←hv,hp,hrl,Nat.beq_refl]
  simp
 ·rw[aeZ_,List.length_cons,hrl];omega
theorem adB_{L:List U8}: ∀(r:Nat) (s:RT) (vs:List Vl),∃xs,(vsL L r s vs).1=vs++xs
 |0,s,vs=>⟨[],by simp[vsL]⟩
 |r+1,s,vs=>by
  unfold vsL
  cases s.q with
  |true=>exact⟨[],by simp⟩
  |false=>
   obtain⟨xs,h⟩:=adB_ r (rvS L s) (vs++[rvV L s])
   exact⟨rvV L s::xs,by show(vsL L r (rvS L s) (vs++[rvV L s])).1=_;rw[h];simp⟩
theorem anw_{L:List U8}(hL:L.all (okA U8)=true): ∀(r n:Nat) (vs xs:List Vl) (X:List U8),n≤L.length→(vsL L r ⟨n,false⟩ vs).2.q=false→(vsL L r ⟨n,false⟩ vs).1=vs++xs→(xs.all fun v=>mvB v.k v.i v.f)=true→L.drop (L.length-n)=xs.flatMap pvL++X→(vfL L r n vs).isSome=true
 |0,n,vs,xs,X,hn,hq,hx,hm,hd=>rfl
 |r+1,n,vs,xs,X,hn,hq,hx,hm,hd=>by
  have hq:(vsL L r (rvS L ⟨n,false⟩) (vs++[rvV L ⟨n,false⟩])).2.q=false:=hq
  have hx:(vsL L r (rvS L ⟨n,false⟩) (vs++[rvV L ⟨n,false⟩])).1=vs++xs:=hx
  have bad:(rvS L ⟨n,false⟩).q=true→False:=fun h=>by
   have:=anx_ (L:=L) r _ (vs++[rvV L ⟨n,false⟩]) h
   rw[hq]at this;cases this
  obtain⟨ys,hy⟩:=adB_ (L:=L) r (rvS L ⟨n,false⟩) (vs++[rvV L ⟨n,false⟩])
  have hxs:xs=rvV L ⟨n,false⟩::ys:=by
   rw[hy,List.append_assoc]at hx
   exact(List.append_cancel_left hx).symm
  subst hxs
  rw[List.all_cons,Bool.and_eq_true]at hm
  obtain⟨hm,hms⟩:=hm
  rw[List.flatMap_cons,List.append_assoc]at hd
  cases h:Nat.blt n 1 with
  |true=>exact absurd (T2_ (L:=L) h) bad
  |false=>
  have e:=n8_ (L:=L) h
  have hk:(rvV L ⟨n,false⟩).k=fkF L n:=e
  cases h0:fkF L n==0 with
  |true=>
   have:=(aiv_ hm).1
   have:=eq_of_beq h0
   omega
  |false=>
  cases hr:frF L n with
  |true=>exact absurd (T3_ hL h h0 hr) bad
  |false=>
  cases hs:fsF L n with
  |true=>exact absurd (aeE_ hL h h0 hr hs) bad
  |false=>
  obtain⟨ht,hl⟩:=ajP_ hL hn h h0 hr hs hm hd
  have hvb:vbF L n=false:=by unfold vbF;rw[h,hr,hs,ht];rfl
  have e1:=M8_ hL h h0 hr hs
  have e2:=M7_ hL h h0 hr hs ht
  unfold vfL
  rw[hvb]
  show(vfL L r (vnF L n) (vs++[vvF L n])).isSome=true
  rw[←e2]
  rw[e1]at hq hx
  have hvn:vnF L n=n-1-wiK (fkF L n):=by unfold vnF;rw[h0];rfl
  have hn1:=s1_ h
  have hw:wiK (fkF L n)≤n-1:=by
   unfold fsF at hs
   rw[Bool.eq_false_iff]at hs
   have: ¬(n-1<wiK (fkF L n)):=fun h=>hs (by simp;omega)
   omega
  refine anw_ hL r (vnF L n) (vs++[rvV L ⟨n,false⟩]) ys X (by omega) hq (by rw[hx];simp) hms ?_
  have:L.drop (L.length-vnF L n)=(L.drop (L.length-n)).drop (1+wiK (fkF L n)):=by
   rw[List.drop_drop]
   congr 1
   omega
  rw[this,hd,←hl,List.drop_left']
  rfl
theorem J1_{L:List U8}{m:Ms}(h:d8_ L=some m):(vsT L).2.q=false∧m=msT L∧mayM (msT L)=true∧L=pmV (msT L):=by
 unfold d8_ at h
 cases h1:(vsT L).2.q with
 |true=>rw[h1]at h;cases h
 |false=>
 rw[h1]at h
 cases h2:Int.ofNat L.length==0 with
 |true=>rw[h2]at h;cases h
 |false=>
 rw[h2]at h
 cases h3: !(e7_ (putQ (msT L)) L)with
 |true=>rw[h3]at h;cases h
 |false=>
 rw[h3]at h
 cases h
 have h3:e7_ (putQ (msT L)) L=true:=by simpa using h3
 have h3:=(q6_ _ _).1 h3
 rw[abE_]at h3
 have hne:L≠[]:=by intro e;rw[e]at h2;cases h2
 unfold pmL at h3
 cases hm:mayM (msT L)with
 |false=>rw[hm]at h3;exact absurd h3.symm hne
 |true=>
 rw[hm]at h3
 cases hd:decide (Int.ofNat (pmV (msT L)).length>200)with
 |true=>rw[hd]at h3;exact absurd h3.symm hne
 |false=>
 rw[hd]at h3
 exact⟨rfl,rfl,rfl,h3.symm⟩
theorem hd17(m:Ms): ∃A:List U8,A.length=17∧ ∀X,hdM m++X=A++(bdL m.bd++([⟨IntKind.wrap .u8 (Int.ofNat m.ps.length)⟩]++X)):=by
 refine⟨[⟨IntKind.wrap .u8 m.k⟩]++hi2 (IntKind.wrap .u64 m.id)++hi2 (IntKind.wrap .u64 m.n)++hi2 (IntKind.wrap .u64 m.sq)++[⟨IntKind.wrap .u8 m.er⟩,⟨cond m.lo 1 0⟩]++hi8 (IntKind.wrap .u64 m.ev),rfl,fun X=> ?_⟩
 unfold hdM
 simp only[List.append_assoc]
theorem amz_{L:List U8}(hL:L.all (okA U8)=true)(h7:t7 L=⟨nH7 L,false⟩)(hn:18≤L.length+1)(hv:rvV L (t7 L)=vvF L (nH7 L)):hdT L=hdH L:=by
 have hb: ∀n w:Nat,w≤n→Nat.blt n w=false:=fun n w h=>by
  rw[Bool.eq_false_iff]
  intro h1
  have:=Nat.le_of_ble_eq_true h1
  omega
 have b0:=hb L.length 1 (by omega)
 have b1:=hb (L.length-1) 2 (by omega)
 have b2:=hb (L.length-1-2) 2 (by omega)
 have b3:=hb (L.length-1-2-2) 2 (by omega)
 have b4:=hb (L.length-1-2-2-2) 1 (by omega)
 have b5:=hb (L.length-1-2-2-2-1) 1 (by omega)
 have b6:=hb (L.length-1-2-2-2-1-1) 8 (by omega)
 have e5:hfK L (L.length-1-2-2-2-1) 1=Int.ofNat (beN L (L.length-(L.length-1-2-2-2-1)) 1):=by
  have:=p6_ hL (L.length-(L.length-1-2-2-2-1)) 1
  unfold hfK
  rw[Int.ofNat_eq_natCast,w64 (by omega) (by omega)]
 unfold hdT hdH
 rw[hv,alm_ b0,all_ b0 b1,alk_ b0 b1 b2,alj_ b0 b1 b2 b3,ali_ b0 b1 b2 b3 b4,alh_ b0 b1 b2 b3 b4 b5]
 show(⟨(⟨L.length,false⟩:RT).vl 1 L,_,_,_,_,_,_,_,_,_,_,_⟩:Ms)=_
 rw[L7_ b0,L7_ b1,L7_ b2,L7_ b3,L7_ b4,L7_ b5,L7_ b6,e5]
theorem Z8_{L:List U8}(hL:L.all (okA U8)=true):d5_ L=d8_ L:=by
 rcases takeR_head (L:=L)with⟨h1,h2⟩|⟨h7,h18,hR⟩
 ·rw[h1,h2]
 have hnL:nH7 L=L.length-17:=by unfold nH7;omega
 have hn7:nH7 L≤L.length:=by omega
 --the band:bad,or at the same place
 have hband:((fvF true).bd L (nH7 L)=true∧d8_ L=none)∨((fvF true).bd L (nH7 L)=false∧rvS L (t7 L)=⟨nH8 L,false⟩∧rvV L (t7 L)=vvF L (nH7 L)):=by
  have bd_eq:(fvF true).bd L (nH7 L)=(Nat.blt (nH7 L) 1||cond (fkF L (nH7 L)==0) false (frF L (nH7 L)||(fsF L (nH7 L)|| !tkQ (fkF L (nH7 L)) (fpF L (nH7 L))))):=rfl
  rw[bd_eq,h7]
  cases h:Nat.blt (nH7 L) 1 with
  |true=>
   refine .inl ⟨rfl,M3_ ?_⟩
   show(rvS L (t7 L)).q=true
   rw[h7];exact T2_ h
  |false=>
  cases h0:fkF L (nH7 L)==0 with
  |true=>
   obtain⟨a,b⟩:=ahO_ (L:=L) h h0
   exact .inr ⟨rfl,a,b⟩
  |false=>
  cases hr:frF L (nH7 L)with
  |true=>
   refine .inl ⟨rfl,M3_ ?_⟩
   show(rvS L (t7 L)).q=true
   rw[h7];exact T3_ hL h h0 hr
  |false=>
  cases hs:fsF L (nH7 L)with
  |true=>
   refine .inl ⟨rfl,M3_ ?_⟩
   show(rvS L (t7 L)).q=true
   rw[h7];exact aeE_ hL h h0 hr hs
  |false=>
  cases hq:tkQ (fkF L (nH7 L)) (fpF L (nH7 L))with
  |true=>exact .inr ⟨rfl,M8_ hL h h0 hr hs,M7_ hL h h0 hr hs hq⟩
  |false=>
   refine .inl ⟨rfl,?_⟩
   cases ht:d8_ L with
   |none=>rfl
   |some m=>
    exfalso
    obtain⟨_,_,hm,hLp⟩:=J1_ ht
    have hbd:(msT L).bd=rvV L ⟨nH7 L,false⟩:=by show rvV L (t7 L)=_;rw[h7]
    have hk:(rvV L ⟨nH7 L,false⟩).k=fkF L (nH7 L):=n8_ h
    have hb:=(O7_ hm).2.2.2.2
    rw[hbd]at hb
    unfold bdOk at hb
    rw[hk,h0]at hb
    have hb:mvB (rvV L ⟨nH7 L,false⟩).k (rvV L ⟨nH7 L,false⟩).i (rvV L ⟨nH7 L,false⟩).f=true:=by rw[hk];exact hb
    obtain⟨A,hA,hX⟩:=hd17 (msT L)
    have hbl:bdL (msT L).bd=pvL (rvV L ⟨nH7 L,false⟩):=by
     rw[hbd];unfold bdL;rw[hk,h0];rfl
    have hLA: ∃X,L=A++(pvL (rvV L ⟨nH7 L,false⟩)++X):=by
     refine⟨[⟨IntKind.wrap .u8 (Int.ofNat (msT L).ps.length)⟩]++((msT L).ps.flatMap ptL++([⟨IntKind.wrap .u8 (Int.ofNat (msT L).vs.length)⟩]++(msT L).vs.flatMap pvL)),?_⟩
     rw[←hbl,←hX,←List.append_assoc,←List.append_assoc]
     exact hLp
    obtain⟨X,hLA⟩:=hLA
    have hd:L.drop (L.length-nH7 L)=pvL (rvV L ⟨nH7 L,false⟩)++X:=by
     have h17:L.length-nH7 L=A.length:=by omega
     rw[h17]
     have:=congrArg (List.drop A.length) hLA
     rw[List.drop_left' rfl]at this
     exact this
    have:=(ajP_ hL hn7 h h0 hr hs hb hd).1
    rw[hq]at this;cases this
 rcases hband with⟨hb,hN⟩|⟨hb,h8,hv⟩
 ·rw[hR,hb,hN];rfl
 rw[hR,hb]
 show tk0 L=d8_ L
 have h8:t8 L=⟨nH8 L,false⟩:=h8
 have hn8:nH8 L≤nH7 L:=by
  show vnF L (nH7 L)≤_
  unfold vnF
  cases fkF L (nH7 L)==0<;>simp<;>omega
 unfold tk0
 cases b8:Nat.blt (nH8 L) 1 with
 |true=>
  refine(aei_ ?_).symm
  show((t8 L).nx 1).q=true
  rw[h8];exact o4_ b8
 |false=>
 have h9:t9 L=⟨nH8 L-1,false⟩:=by
  show(t8 L).nx 1=_
  rw[h8];exact x7_ b8
 have hlt1:=p6_ hL (L.length-nH8 L) 1
 have hc1:((t8 L).vl 1 L).toNat=beN L (L.length-nH8 L) 1:=by
  rw[h8,L7_ b8]
  unfold hfK
  rw[Int.ofNat_eq_natCast,w64 (by omega) (by omega)]
  exact Int.toNat_natCast _
 have hpc:=abG_ (L:=L) (beN L (L.length-nH8 L) 1) (nH8 L-1) []
 have hpT:psT L=psL L (beN L (L.length-nH8 L) 1) ⟨nH8 L-1,false⟩ []:=by unfold psT;rw[hc1,h9]
 rw[←hpT]at hpc
 show(match pfL L (beN L (L.length-nH8 L) 1) (nH8 L-1) []with
  |none=>none
  |some (ps,n)=>tk1 L (d1_ (hdH L) ps) n)=d8_ L
 cases hp:pfL L (beN L (L.length-nH8 L) 1) (nH8 L-1) []with
 |none=>
  rw[hp]at hpc
  exact(abF_ hpc).symm
 |some pk=>
 obtain⟨ps,n⟩:=pk
 rw[hp]at hpc
 have hpc:psT L=(ps,⟨n,false⟩):=hpc
 obtain⟨xs,e1,e2,e3⟩:=aka_ _ _ _ _ _ hp
 rw[List.nil_append]at e1
 subst e1
 show tk1 L (d1_ (hdH L) ps) n=d8_ L
 unfold tk1
 cases bA:Nat.blt n 1 with
 |true=>
  refine(aeh_ ?_).symm
  show((psT L).2.nx 1).q=true
  rw[hpc];exact o4_ bA
 |false=>
 have hA:tA L=⟨n-1,false⟩:=by
  show(psT L).2.nx 1=_
  rw[hpc];exact x7_ bA
 have hlt2:=p6_ hL (L.length-n) 1
 have hc2:((psT L).2.vl 1 L).toNat=beN L (L.length-n) 1:=by
  rw[hpc]
  show((⟨n,false⟩:RT).vl 1 L).toNat=_
  rw[L7_ bA]
  unfold hfK
  rw[Int.ofNat_eq_natCast,w64 (by omega) (by omega)]
  exact Int.toNat_natCast _
 have hvT:vsT L=vsL L (beN L (L.length-n) 1) ⟨n-1,false⟩ []:=by unfold vsT;rw[hc2,hA]
 have hn1:=s1_ bA
 have hps:(msT L).ps=ps:=by show(psT L).1=ps;rw[hpc]
 show(match vfL L (beN L (L.length-n) 1) (n-1) []with
  |none=>none
  |some (vs,_)=>tk2 L (g5_ (d1_ (hdH L) ps) (d1_ (hdH L) ps).ps vs))=d8_ L
 cases hvf:vfL L (beN L (L.length-n) 1) (n-1) []with
 |some vk=>
  obtain⟨vs,k⟩:=vk
  have hvs:=anz_ hL _ _ _ _ _ hvf
  rw[←hvT]at hvs
  have hms:msT L=g5_ (d1_ (hdH L) ps) (d1_ (hdH L) ps).ps vs:=by
   unfold msT
   rw[amz_ hL h7 h18 hv,hvs,hpc];rfl
  show tk2 L (g5_ (d1_ (hdH L) ps) (d1_ (hdH L) ps).ps vs)=_
  rw[←hms]
  unfold tk2 d8_
  rw[abE_,hvs];rfl
 |none=>
  show none=d8_ L
  cases ht:d8_ L with
  |none=>rfl
  |some m=>
   exfalso
   obtain⟨hq,_,hm,hLp⟩:=J1_ ht
   obtain⟨i5,i6,ip,iv,ib⟩:=O7_ hm
   have hvs1:(msT L).vs=(vsT L).1:=rfl
   have hbd:(msT L).bd=vvF L (nH7 L):=hv
   obtain⟨A,hA17,hX⟩:=hd17 (msT L)
   --what stands ahead of the values
   have hlen:((pmP (msT L)++[(⟨IntKind.wrap .u8 (Int.ofNat (msT L).vs.length)⟩:U8)])).length=L.length-(n-1):=by
    have hbl:(bdL (msT L).bd).length=nH7 L-nH8 L:=by
     rw[hbd]
     have hg:Nat.blt (nH7 L) 1=false:=by
      cases h:Nat.blt (nH7 L) 1 with
      |false=>rfl
      |true=>
       have bd_eq:(fvF true).bd L (nH7 L)=(Nat.blt (nH7 L) 1||cond (fkF L (nH7 L)==0) false (frF L (nH7 L)||(fsF L (nH7 L)|| !tkQ (fkF L (nH7 L)) (fpF L (nH7 L))))):=rfl
       rw[bd_eq,h]at hb;cases hb
     have hg1:=s1_ hg
     have bd_eq:(fvF true).bd L (nH7 L)=(Nat.blt (nH7 L) 1||cond (fkF L (nH7 L)==0) false (frF L (nH7 L)||(fsF L (nH7 L)|| !tkQ (fkF L (nH7 L)) (fpF L (nH7 L))))):=rfl
     rw[bd_eq,hg,Bool.false_or]at hb
     show(bdL (vvF L (nH7 L))).length=nH7 L-vnF L (nH7 L)
     unfold bdL vnF
     have hkk:(vvF L (nH7 L)).k=cond (fkF L (nH7 L)==0) 0 (fkF L (nH7 L)):=rfl
     rw[hkk]
     cases h0:fkF L (nH7 L)==0 with
     |true=>show 1=nH7 L-(nH7 L-1);omega
     |false=>
      rw[h0]at hb
      have hb:(frF L (nH7 L)||(fsF L (nH7 L)|| !tkQ (fkF L (nH7 L)) (fpF L (nH7 L))))=false:=hb
      rw[Bool.or_eq_false_iff,Bool.or_eq_false_iff]at hb
      obtain⟨hr,hs,_⟩:=hb
      have hc:=r4_ hL h0 hr
      have hw:wiK (fkF L (nH7 L))≤nH7 L-1:=by
       unfold fsF at hs
       rw[Bool.eq_false_iff]at hs
       have: ¬(nH7 L-1<wiK (fkF L (nH7 L))):=fun h=>hs (by simp;omega)
       omega
      have hrl:=aeD_ (v:=vvF L (nH7 L)) (by rw[hkk,h0];exact hc)
      rw[hkk,h0]at hrl
      show(cond (fkF L (nH7 L)==0) [(⟨0⟩:U8)] (pvL (vvF L (nH7 L)))).length=nH7 L-(nH7 L-1-wiK (fkF L (nH7 L)))
      rw[h0]
      show(pvL (vvF L (nH7 L))).length=_
      rw[aeZ_,List.length_cons,hrl]
      show wiK (fkF L (nH7 L))+1=_
      omega
    have hP:(pmP (msT L)).length=17+(nH7 L-nH8 L)+1+(ps.flatMap ptL).length:=by
     unfold pmP
     rw[hX,hps]
     simp only[List.length_append,hA17,hbl,List.length_cons,List.length_nil]
     omega
    rw[List.length_append,hP]
    have hb8:=s1_ b8
    simp only[List.length_cons,List.length_nil]
    omega
   have hd:L.drop (L.length-(n-1))=(vsT L).1.flatMap pvL++[]:=by
    rw[←hlen]
    have:=congrArg (List.drop (pmP (msT L)++[(⟨IntKind.wrap .u8 (Int.ofNat (msT L).vs.length)⟩:U8)]).length) hLp
    unfold pmV at this
    rw[List.drop_left' rfl]at this
    rw[List.append_nil]
    exact this
   have:=anw_ hL (beN L (L.length-n) 1) (n-1) [] (vsT L).1 [] (by omega) (by rw[←hvT];exact hq) (by rw[←hvT];rfl) iv hd
   rw[hvf]at this;cases this
theorem aqi_(l:List U8)(c:Nat):lG l c=l:=F7_ l c
theorem aoX_(x:Ss):(Enc.dec (nthT [Td.sc (.bool x.on),Td.sc (.int .i64 x.se),Td.fr 1 x.fb.length x.cfb fun i=>encL x.fb i,Td.sc (.bool x.ba),Td.fr 12 x.ins.length x.cins fun i=>encL x.ins i,Td.fr 12 x.out.length x.cout fun i=>encL x.out i,Td.fr 15 x.sub.length x.csub fun i=>encL x.sub i,Td.sc (.int .i64 x.num)]):Ss)=x:=(dE_ x).1
theorem amR_(L:List U8):(Enc.dec (nthT [Td.sc (.bool (decide ((onQ L).1>0))),Td.sc (.int .i64 (seP L).1),Td.fr 1 ([]:List U8).length 1 fun i=>encL ([]:List U8) i,Td.sc (.bool false),Td.fr 12 (inP L).1.length 1 fun i=>encL (inP L).1 i,Td.fr 12 (ouP L).1.length 1 fun i=>encL (ouP L).1 i,Td.fr 15 (suP L).1.length 1 fun i=>encL (suP L).1 i,Td.sc (.int .i64 0)]):Ss)=f4_ L:=(dE_ (f4_ L)).1
theorem g5:(ArgE.get (Ta.cell (Td.sc (Value.int IntKind.i64 (5:Int)))):Int)=5:=rfl
theorem oA3g{x:Ss}{b:Td}(hx:okA Ss x=true)(hb:okT U8 b=true)(hp:fitC x (a3_ U8 b)=true):okA3 (Sc Ss) (Rw U8) Int (fun s b _=>fitC (Sc.x s) (Rw.l b)) [.agg (b1_ x),.cell b,.cell (.sc (.int .i64 5))]=true:=by
 show((Nat.beq (b1_ x).length (Enc.es Ss)&&Enc.ok Ss (nthT (b1_ x)))&&okT U8 b&&true&&fitC (Enc.dec (nthT (b1_ x))) (a3_ U8 b))=true
 rw[eL_,Nat.beq_refl,(dE_ x).1,(dE_ x).2,hx,hb,hp];rfl
theorem adc_{tk:List U8→Option Ms}{s:Ss}{A:List U8}{now:Int}(h1:s.on=true)(h2:s.ba=false)(h3:s.fb=[])(hA:A.length≤200):comeF tk s (putL A) now=match tk A with
  |none=>zSs
  |some m=>cond (decide (6<s.ins.length+1)) zSs ⟨true,now,[],fdC false [] s.cfb (putL A),false,s.ins++[m],1,s.out,1,s.sub,s.csub,s.num⟩:=by
 have hp:putL A=c6_ A:=by unfold putL;rw[if_neg (by omega)]
 have hf:fd ([]++c6_ A)=([⟨A,0⟩],[],11):=by
  have:=aiV_ (l:=A) (m:=[]) hA
  rw[List.append_nil,aoT_]at this
  exact this
 have e1:fdL false [] (putL A)=[⟨A,0⟩]:=by rw[hp];show(fd ([]++c6_ A)).1=_;rw[hf]
 have e2:fdQ false [] (putL A)=false:=by rw[hp];show Nat.beq (fd ([]++c6_ A)).2.2 2=_;rw[hf];rfl
 have e3:fdB false [] (putL A)=[]:=by rw[hp];show cond (Nat.beq (fd ([]++c6_ A)).2.2 2) [] (fd ([]++c6_ A)).2.1=_;rw[hf];rfl
 unfold comeF
 rw[h1,h2,h3,e1,e2,e3]
 show(match loadsM tk [⟨A,0⟩]with
 |none=>zSs
 |some ms=>cond (false||decide (6<s.ins.length+ms.length)) zSs ⟨true,now,[],fdC false [] s.cfb (putL A),false,s.ins++ms,1,s.out,1,s.sub,s.csub,s.num⟩)=_
 simp only[loadsM]
 cases tk A<;>rfl
theorem aiJ_{l:List U8}(h1:l.all (okA U8)=true)(h2:l.length≤1000000):(f4_ l).ins.length≤3:=by
 have hp0:PkOk l 0:=⟨h1,h2,Int.le_refl _⟩
 obtain⟨s0,s1,p1⟩:=nF_ (m:=9) hp0 (by omega)
 obtain⟨i0,i1,p2⟩:=nF_ (m:=4) p1 (by omega)
 obtain⟨a1,a2⟩:=aay_ (i0P l).1.toNat (i0P l).2 [] p2 rfl
 have a2:(inP l).1.length=0+(i0P l).1.toNat:=a2
 have i1:(i0P l).1<4:=i1
 show(inP l).1.length≤3
 omega
theorem alf_{L:List U8}(hL:L.all (okA U8)=true):tkMs L=match d5_ L with
  |some m=>cond (decide (m.k>5)) none (some m)
  |none=>none:=by rw[Z8_ hL];rfl
theorem zz2:okA2 (Sc Ss) (Sc Ss) (fun _ _=>true) [.agg (b1_ zSs),.agg [Td.sc (Value.bool false),Td.sc (Value.int IntKind.i64 (0:Int)),Td.fr 0 0 1 noT,Td.sc (Value.bool false),Td.fr 0 0 1 noT,Td.fr 0 0 1 noT,Td.fr 0 0 1 noT,Td.sc (Value.int IntKind.i64 (0:Int))]]=true:=by kernel_rfl
theorem zz3:i7_ zSs (Enc.dec (nthT [Td.sc (Value.bool false),Td.sc (Value.int IntKind.i64 (0:Int)),Td.fr 0 0 1 noT,Td.sc (Value.bool false),Td.fr 0 0 1 noT,Td.fr 0 0 1 noT,Td.fr 0 0 1 noT,Td.sc (Value.int IntKind.i64 (0:Int))]))=true:=by kernel_rfl
theorem aqt_{l a m:List U8}{c d e:Nat}(hc:c≤1)(hd:d≤1)(he:e≤1)(hl:l.all (okA U8)=true)(ha:a.all (okA U8)=true)(hm:m.all (okA U8)=true)(w:World)(args':Array Value)(hA:PW (TR w (H4_ w)) [tdL l c,tdL a d,tdL m e] args'.toList):
  Calls Tryz.prog 4 args' w fun e w'=>e= .returned (.bool true)∧Below w.heap.size w w':=by
 refine amp_ (C:=adU_) (fuel:=100) (n:=20) (un:=fun _=>0) (lvs:=fun _=>[]) (ex:=fun _ _=>False) follows adT_ (fun β hβ=> ?_) w args' hA
 show lawE _ _ _ _ _ _ (cnOf 3 fun _=>[]) _ _ [.slice (some ⟨0,0,some 0⟩) l.length c,.slice (some ⟨1,0,some 0⟩) a.length d,.slice (some ⟨2,0,some 0⟩) m.length e] (mkS [some (rowO .still l),some (rowO .still a),some (rowO .still m)]) adR_
 rw[apH_]
 refine a0_ (fun _=>trivial) (fun q1=>a0_ (fun _=>trivial) (fun q2=>a0_ (fun _=>trivial) (fun q3=> ?_)))
 have l60:l.length≤60:=by simp at q1;omega
 have a60:a.length≤60:=by simp at q2;omega
 have gm:=amk_ hl (show l.length≤1000000 by omega)
 have hi3:=aiJ_ hl (show l.length≤1000000 by omega)
 have hpb:=alD_ ha
 have hpl:=aij_ a
 have o1:okA1 (Rw U8) (fun r=>List.all (Rw.l r) (okA U8)) [Ta.cell (Td.fr 1 (List.length l) c fun i=>encL l i)]=true:=F2_ hl (by omega) hc hl
 have o2:okA1 (Rw U8) (fun r=>List.all (Rw.l r) (okA U8)) [Ta.cell (Td.fr 1 (List.length a) d fun i=>encL a i)]=true:=F2_ ha (by omega) hd ha
 have o3:ok1 U8 (fun l _=>List.all l (okA U8)) [Ta.cell (Td.fr 1 (List.length a) d fun i=>encL a i)]=true:=ok1U ha (by omega) hd
 have k1:=oA3g gm.ok (afq_ (c:=d) ha (by omega) hd) (by rw[lU];exact gm.fitC ha (by omega))
 have k2:=oA3g gm.ok (afq_ (c:=1) hpb (by omega) (Nat.le_refl _)) (by rw[lU];exact gm.fitC hpb (by omega))
 have lP:=lU (putL a) 1
 have hon:(f4_ l).on=decide ((onQ l).1>0):=rfl
 have hin:(f4_ l).ins=(inP l).1:=rfl
 simp only[Nat.zero_add,aqi_,amR_,lU,bleS,Bool.true_and,k8_,o1,o2,o3,g5]
 refine a0_ (fun h0=> ?_) (fun h0=> ?_)
 ·refine nd_ k1 (nd_ ?_ trivial)
  have:(f4_ l).on=false:=by rw[hon];simpa using h0
  rw[X5_ this]
  show(!(f4_ l).on)=true
  rw[this];rfl
 have hon1:(f4_ l).on=true:=by rw[hon];simpa using h0
 have hC:=adc_ (tk:=tkMs) (s:=f4_ l) (A:=a) (now:=5) hon1 rfl rfl (by omega)
 rw[alf_ ha]at hC
 rw[←hin]
 have hlt:decide (6<(f4_ l).ins.length+1)=false:=decide_eq_false (by omega)
 refine nd_ k2 ?_
 generalize comeF tkMs (f4_ l) (putL a) 5=X at hC ⊢
 cases hT:d5_ a with
 |none=>
  rw[hT]at hC
  have hC:X=zSs:=hC
  subst hC
  refine a0_ (fun h=>by cases h) (fun _=> ?_)
  rw[aoX_]
  exact nd_ zz2 (nd_ zz3 trivial)
 |some mm=>
  rw[hT]at hC
  have hC:X=match cond (decide (mm.k>5)) none (some mm)with
   |none=>zSs
   |some m=>cond (decide (6<(f4_ l).ins.length+1)) zSs ⟨true,5,[],fdC false [] (f4_ l).cfb (putL a),false,(f4_ l).ins++[m],1,(f4_ l).out,1,(f4_ l).sub,(f4_ l).csub,(f4_ l).num⟩:=hC
  refine a0_ (fun _=>a0_ (fun hk=> ?_) (fun hk=> ?_)) (fun h=>by cases h)
  ·have hk:mm.k≤5:=of_decide_eq_true hk
   rw[decide_eq_false (show¬mm.k>5 by omega),hlt]at hC
   have hC:X=⟨true,5,[],fdC false [] (f4_ l).cfb (putL a),false,(f4_ l).ins++[mm],1,(f4_ l).out,1,(f4_ l).sub,(f4_ l).csub,(f4_ l).num⟩:=hC
   subst hC
   have h6:decide (Int.ofNat (f4_ l).ins.length<(6:Int))=true:=by
    rw[Int.ofNat_eq_natCast];exact decide_eq_true (by omega)
   refine nd_ (by rw[h6];rfl) (a0_ (fun h=>by cases h) (fun _=>nd_ ?_ trivial))
   show(Int.ofNat ((f4_ l).ins++[mm]).length==IntKind.wrap .i64 (Int.ofNat (f4_ l).ins.length+1))=true
   rw[List.length_append,Int.ofNat_eq_natCast,Int.ofNat_eq_natCast,w64 (by omega) (by omega)]
   simp
  ·have hk: ¬mm.k≤5:=of_decide_eq_false hk
   rw[decide_eq_true (show mm.k>5 by omega)]at hC
   have hC:X=zSs:=hC
   subst hC
   rw[aoX_]
   exact nd_ zz2 (nd_ zz3 trivial)
end Go.Proofs.YtachglcffimmeaaGreat.Ev
