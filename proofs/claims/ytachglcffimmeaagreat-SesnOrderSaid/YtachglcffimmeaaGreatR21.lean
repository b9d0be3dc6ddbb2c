/-
  Messages, subscriptions, sessions: data that lie in cells.
-/
import Derived.Test.YtachglcffimmeaaGreatR20
import Derived.Test.YtachglcffimmeaaGreatR18
set_option linter.unusedVariables false
set_option linter.unusedSimpArgs false
set_option maxRecDepth 1000000
namespace Go.Proofs.YtachglcffimmeaaGreat.Ev
open Go Go.Proofs Go.RowKit
class EncQ (α:Type) [Enc α]:Prop where
 es0:Enc.es α≠0
 mrg: ∀(b:Bool) (x y:α) (j:Nat),mrgT b (Enc.enc x j) (Enc.enc y j)=cond b (Enc.enc x j) (Enc.enc y j)
 cong: ∀(c:Nat→Td) (x:α),(∀j,j<Enc.es α→c j=Enc.enc x j)→(Enc.dec c:α)=x∧Enc.ok α c=okA α x
theorem F9_{α:Type}[Enc α][EncQ α](b:Bool)(l m:List α)(c d:Nat):mrgT b (.fr (Enc.es α) l.length c (encL l)) (.fr (Enc.es α) m.length d (encL m))=cond b (.fr (Enc.es α) l.length c (encL l)) (.fr (Enc.es α) m.length d (encL m)):=by
 have hs:g0_ (Enc.es α) l.length (Enc.es α) m.length=true:=by simp[g0_,Nat.beq_refl]
 have:mrgT b (.fr (Enc.es α) l.length c (encL l)) (.fr (Enc.es α) m.length d (encL m))= .fr (Enc.es α) (cond b l.length m.length) (cond b c d) fun i j=>mrgT b (encL l i j) (encL m i j):=by
  simp only[mrgT,hs,cond_true,b8_ (EncQ.es0 (α:=α)),cond_false]
 refine Eq.trans this ?_
 cases b with
 |true=>
  simp only[cond_true]
  congr 1
  funext i j
  exact EncQ.mrg true _ _ j
 |false=>
  simp only[cond_false]
  congr 1
  funext i j
  exact EncQ.mrg false _ _ j
def bolD(t:Td):Bool:=match t with| .sc (.bool b)=>b|_=>false
def v4_(t:Td):Bool:=match t with| .sc (.bool _)=>true|_=>false
theorem bI_{t:Td}(h:v4_ t=true):t= .sc (.bool (bolD t)):=by
 unfold v4_ at h
 split at h
 ·rfl
 ·cases h
def strD(t:Td):ByteArray:=match t with| .sc (.string b)=>b|_=>⟨#[]⟩
def ahF_(t:Td):Bool:=match t with| .sc (.string _)=>true|_=>false
theorem S9_{t:Td}(h:ahF_ t=true):t= .sc (.string (strD t)):=by
 unfold ahF_ at h
 split at h
 ·rfl
 ·cases h
def fltD(t:Td):Nat:=match t with| .sc (.float .f64 f)=>f|_=>0
def I6_(t:Td):Bool:=match t with| .sc (.float .f64 _)=>true|_=>false
theorem fI_{t:Td}(h:I6_ t=true):t= .sc (.float .f64 (fltD t)):=by
 unfold I6_ at h
 split at h
 ·rfl
 ·cases h
instance:EncQ Int where
 es0:=by decide
 mrg b x y j:=by cases b<;>rfl
 cong c x h:=by
  have h0:c 0= .sc (.int .i64 x):=h 0 (by show 0<1;omega)
  exact⟨by show(match c 0 with| .sc (.int .i64 a)=>a|_=>0)=_;rw[h0],by show(match c 0 with| .sc (.int .i64 _)=>true|_=>false)=_;rw[h0];rfl⟩
instance:EncQ Vl where
 es0:=by decide
 mrg b x y j:=match j with
  |0=>by cases b<;>rfl
  |1=>by cases b<;>rfl
  |j+2=>by cases b<;>rfl
 cong c x h:=by
  have h0:=h 0 (by show 0<3;omega)
  have h1:=h 1 (by show 1<3;omega)
  have h2:=h 2 (by show 2<3;omega)
  refine⟨Eq.trans ?_ (Enc.back x),?_⟩
  ·show vlD c=vlD (vlE x);unfold vlD;rw[h0,h1,h2];rfl
  ·show vlOk c=vlOk (vlE x);unfold vlOk;rw[h0,h1,h2];rfl
instance:EncQ U8 where
 es0:=by decide
 mrg b x y j:=by cases b<;>rfl
 cong c x h:=by
  have h0:c 0= .sc (.int .u8 x.v):=h 0 (by show 0<1;omega)
  exact⟨by show u8D c=x;unfold u8D;rw[h0],by show u8Ok c=u8Ok (u8E x);unfold u8Ok;rw[h0];rfl⟩
theorem oTa{α:Type}[Enc α]{l:List α}{c:Nat}(h:okT α (tdL l c)=true):l.all (okA α)=true:=by
 simp only[tdL,okT,Bool.or_eq_true,Bool.and_eq_true]at h
 rw[List.all_eq_true]
 intro x hx
 obtain⟨i,hi,rfl⟩:=List.getElem_of_mem hx
 rcases h with h|h
 ·have h1:=abM_ h.1.1.2 hi
  have h2:Enc.ok α (Enc.enc (l.getD i Enc.dflt))=true:=h1
  have h3:l.getD i Enc.dflt=l[i]:=by simp[List.getD,hi]
  rw[h3]at h2
  exact h2
 ·have:=Nat.eq_of_beq_eq_true h.1
  omega
structure St where
 s:ByteArray
def stE(x:St)(j:Nat):Td:=match j with
 |_=> .sc (.string x.s)
def stD(c:Nat→Td):St:=⟨strD (c 0)⟩
def stOk(c:Nat→Td):Bool:=ahF_ (c 0)
def aes_(c:Nat→Td):Prop:=ahF_ (c 0)=true
theorem aer_{c:Nat→Td}(h:stOk c=true):aes_ c:=by
 exact h
theorem anZ_{c:Nat→Td}(h:aes_ c)(w:World)(F:Nat→Prop)(j:Nat)(y:Value)(hj:j<1)(ht:TR w F (c j) y):TR w F (stE (stD c) j) y:=by
 have h0:=h
 match j,hj with
 |0,_=>rw[S9_ h0]at ht;exact ht
theorem aeq_(a:St):stD (stE a)=a:=by
 rfl
instance encSt:Enc St where
 es:=1
 enc:=stE
 dec:=stD
 ok:=stOk
 dflt:=⟨⟨#[]⟩⟩
 good:=aes_
 okgood c h:=aer_ h
 law c h w F j y hj ht:=anZ_ h w F j y hj ht
 back a:=aeq_ a
 mrg a b w F j y hj:=match j,hj with
  |0,_=>⟨fun h=>h,fun h=>h⟩
instance encQSt:EncQ St where
 es0:=by decide
 mrg b x y j:=match j with
  |_=>by cases b<;>rfl
 cong c x h:=by
  have h0:=h 0 (by show 0<1;omega)
  refine⟨Eq.trans ?_ (aeq_ x),?_⟩
  ·show stD c=stD (stE x)
   unfold stD
   rw[h0]
   rfl
  ·show stOk c=stOk (stE x)
   unfold stOk
   rw[h0]
   rfl
structure Ms where
 k:Int
 id:Int
 er:Int
 n:Int
 sq:Int
 lo:Bool
 ev:Int
 bd:Vl
 ps:List St
 cps:Nat
 vs:List Vl
 cvs:Nat
def msE(x:Ms)(j:Nat):Td:=match j with
 |0=> .sc (.int .i64 x.k)
 |1=> .sc (.int .i64 x.id)
 |2=> .sc (.int .i64 x.er)
 |3=> .sc (.int .i64 x.n)
 |4=> .sc (.int .i64 x.sq)
 |5=> .sc (.bool x.lo)
 |6=> .sc (.int .i64 x.ev)
 |7=> .sc (.int .i64 x.bd.k)
 |8=> .sc (.int .i64 x.bd.i)
 |9=> .sc (.float .f64 x.bd.f)
 |10=> .fr (Enc.es St) x.ps.length x.cps (encL x.ps)
 |_=> .fr (Enc.es Vl) x.vs.length x.cvs (encL x.vs)
def msD(c:Nat→Td):Ms:=⟨intD (c 0),intD (c 1),intD (c 2),intD (c 3),intD (c 4),bolD (c 5),intD (c 6),⟨intD (c 7),intD (c 8),fltD (c 9)⟩,a4_ St (c 10),nilT (c 10),a4_ Vl (c 11),nilT (c 11)⟩
def msOk(c:Nat→Td):Bool:=b9_ (c 0)&&b9_ (c 1)&&b9_ (c 2)&&b9_ (c 3)&&b9_ (c 4)&&v4_ (c 5)&&b9_ (c 6)&&b9_ (c 7)&&b9_ (c 8)&&I6_ (c 9)&&okT St (c 10)&&okT Vl (c 11)
def afE_(c:Nat→Td):Prop:=b9_ (c 0)=true∧b9_ (c 1)=true∧b9_ (c 2)=true∧b9_ (c 3)=true∧b9_ (c 4)=true∧v4_ (c 5)=true∧b9_ (c 6)=true∧b9_ (c 7)=true∧b9_ (c 8)=true∧I6_ (c 9)=true∧p2_ St (c 10)∧p2_ Vl (c 11)
theorem afD_{c:Nat→Td}(h:msOk c=true):afE_ c:=by
 simp only[msOk,Bool.and_eq_true]at h
 obtain⟨⟨⟨⟨⟨⟨⟨⟨⟨⟨⟨h0,h1⟩,h2⟩,h3⟩,h4⟩,h5⟩,h6⟩,h7⟩,h8⟩,h9⟩,h10⟩,h11⟩:=h
 exact⟨h0,h1,h2,h3,h4,h5,h6,h7,h8,h9,h1_ h10,h1_ h11⟩
theorem aox_{c:Nat→Td}(h:afE_ c)(w:World)(F:Nat→Prop)(j:Nat)(y:Value)(hj:j<12)(ht:TR w F (c j) y):TR w F (msE (msD c) j) y:=by
 obtain⟨h0,h1,h2,h3,h4,h5,h6,h7,h8,h9,h10,h11⟩:=h
 match j,hj with
 |0,_=>rw[iI_ h0]at ht;exact ht
 |1,_=>rw[iI_ h1]at ht;exact ht
 |2,_=>rw[iI_ h2]at ht;exact ht
 |3,_=>rw[iI_ h3]at ht;exact ht
 |4,_=>rw[iI_ h4]at ht;exact ht
 |5,_=>rw[bI_ h5]at ht;exact ht
 |6,_=>rw[iI_ h6]at ht;exact ht
 |7,_=>rw[iI_ h7]at ht;exact ht
 |8,_=>rw[iI_ h8]at ht;exact ht
 |9,_=>rw[fI_ h9]at ht;exact ht
 |10,_=>exact f7_ (α:=St) h10 ht
 |11,_=>exact f7_ (α:=Vl) h11 ht
theorem afC_(a:Ms):msD (msE a)=a:=by
 obtain⟨k,id,er,n,sq,lo,ev,bd,ps,cps,vs,cvs⟩:=a
 show(⟨k,id,er,n,sq,lo,ev,bd,decL ps.length (encL ps),cps,decL vs.length (encL vs),cvs⟩:Ms)=_
 rw[b4_,b4_]
instance encMs:Enc Ms where
 es:=12
 enc:=msE
 dec:=msD
 ok:=msOk
 dflt:=⟨0,0,0,0,0,false,0,⟨0,0,0⟩,[],1,[],1⟩
 good:=afE_
 okgood c h:=afD_ h
 law c h w F j y hj ht:=aox_ h w F j y hj ht
 back a:=afC_ a
 mrg a b w F j y hj:=match j,hj with
  |0,_=>⟨fun h=>h,fun h=>h⟩
  |1,_=>⟨fun h=>h,fun h=>h⟩
  |2,_=>⟨fun h=>h,fun h=>h⟩
  |3,_=>⟨fun h=>h,fun h=>h⟩
  |4,_=>⟨fun h=>h,fun h=>h⟩
  |5,_=>⟨fun h=>h,fun h=>h⟩
  |6,_=>⟨fun h=>h,fun h=>h⟩
  |7,_=>⟨fun h=>h,fun h=>h⟩
  |8,_=>⟨fun h=>h,fun h=>h⟩
  |9,_=>⟨fun h=>h,fun h=>h⟩
  |10,_=>⟨d6_ (α:=St) (by decide),c9_ (α:=St) (by decide)⟩
  |11,_=>⟨d6_ (α:=Vl) (by decide),c9_ (α:=Vl) (by decide)⟩
instance encQMs:EncQ Ms where
 es0:=by decide
 mrg b x y j:=match j with
  |0=>by cases b<;>rfl
  |1=>by cases b<;>rfl
  |2=>by cases b<;>rfl
  |3=>by cases b<;>rfl
  |4=>by cases b<;>rfl
  |5=>by cases b<;>rfl
  |6=>by cases b<;>rfl
  |7=>by cases b<;>rfl
  |8=>by cases b<;>rfl
  |9=>by cases b<;>rfl
  |10=>F9_ b x.ps y.ps x.cps y.cps
  |j+11=>F9_ b x.vs y.vs x.cvs y.cvs
 cong c x h:=by
  have h0:=h 0 (by show 0<12;omega)
  have h1:=h 1 (by show 1<12;omega)
  have h2:=h 2 (by show 2<12;omega)
  have h3:=h 3 (by show 3<12;omega)
  have h4:=h 4 (by show 4<12;omega)
  have h5:=h 5 (by show 5<12;omega)
  have h6:=h 6 (by show 6<12;omega)
  have h7:=h 7 (by show 7<12;omega)
  have h8:=h 8 (by show 8<12;omega)
  have h9:=h 9 (by show 9<12;omega)
  have h10:=h 10 (by show 10<12;omega)
  have h11:=h 11 (by show 11<12;omega)
  refine⟨Eq.trans ?_ (afC_ x),?_⟩
  ·show msD c=msD (msE x)
   unfold msD
   rw[h0,h1,h2,h3,h4,h5,h6,h7,h8,h9,h10,h11]
   rfl
  ·show msOk c=msOk (msE x)
   unfold msOk
   rw[h0,h1,h2,h3,h4,h5,h6,h7,h8,h9,h10,h11]
   rfl
theorem W1_{x:Ms}(h0:x.ps.all (okA St)=true)(l0:x.ps.length≤1000000)(c0:x.cps≤1)(h1:x.vs.all (okA Vl)=true)(l1:x.vs.length≤1000000)(c1:x.cvs≤1):okA Ms x=true:=by
 show(true&&true&&true&&true&&true&&true&&true&&true&&true&&true&&okT St (tdL x.ps x.cps)&&okT Vl (tdL x.vs x.cvs))=true
 rw[d0_ h0 l0 c0,d0_ h1 l1 c1];rfl
theorem r1_{x:Ms}(h:okA Ms x=true):x.ps.all (okA St)=true∧x.ps.length≤1000000∧x.cps≤1∧x.vs.all (okA Vl)=true∧x.vs.length≤1000000∧x.cvs≤1:=by
 have h:(true&&true&&true&&true&&true&&true&&true&&true&&true&&true&&okT St (tdL x.ps x.cps)&&okT Vl (tdL x.vs x.cvs))=true:=h
 simp only[Bool.and_eq_true]at h
 obtain⟨⟨⟨⟨⟨⟨⟨⟨⟨⟨⟨h0,h1⟩,h2⟩,h3⟩,h4⟩,h5⟩,h6⟩,h7⟩,h8⟩,h9⟩,h10⟩,h11⟩:=h
 have k0:=b7_ h10
 have m0:=oTa h10
 rw[lT_,n0_]at k0
 have k1:=b7_ h11
 have m1:=oTa h11
 rw[lT_,n0_]at k1
 exact⟨m0,k0.1,k0.2,m1,k1.1,k1.2⟩
structure Im where
 sq:Int
 v:Vl
 lo:Bool
def imE(x:Im)(j:Nat):Td:=match j with
 |0=> .sc (.int .i64 x.sq)
 |1=> .sc (.int .i64 x.v.k)
 |2=> .sc (.int .i64 x.v.i)
 |3=> .sc (.float .f64 x.v.f)
 |_=> .sc (.bool x.lo)
def imD(c:Nat→Td):Im:=⟨intD (c 0),⟨intD (c 1),intD (c 2),fltD (c 3)⟩,bolD (c 4)⟩
def imOk(c:Nat→Td):Bool:=b9_ (c 0)&&b9_ (c 1)&&b9_ (c 2)&&I6_ (c 3)&&v4_ (c 4)
def afR_(c:Nat→Td):Prop:=b9_ (c 0)=true∧b9_ (c 1)=true∧b9_ (c 2)=true∧I6_ (c 3)=true∧v4_ (c 4)=true
theorem afQ_{c:Nat→Td}(h:imOk c=true):afR_ c:=by
 simp only[imOk,Bool.and_eq_true]at h
 obtain⟨⟨⟨⟨h0,h1⟩,h2⟩,h3⟩,h4⟩:=h
 exact⟨h0,h1,h2,h3,h4⟩
theorem aoC_{c:Nat→Td}(h:afR_ c)(w:World)(F:Nat→Prop)(j:Nat)(y:Value)(hj:j<5)(ht:TR w F (c j) y):TR w F (imE (imD c) j) y:=by
 obtain⟨h0,h1,h2,h3,h4⟩:=h
 match j,hj with
 |0,_=>rw[iI_ h0]at ht;exact ht
 |1,_=>rw[iI_ h1]at ht;exact ht
 |2,_=>rw[iI_ h2]at ht;exact ht
 |3,_=>rw[fI_ h3]at ht;exact ht
 |4,_=>rw[bI_ h4]at ht;exact ht
theorem afP_(a:Im):imD (imE a)=a:=by
 rfl
instance encIm:Enc Im where
 es:=5
 enc:=imE
 dec:=imD
 ok:=imOk
 dflt:=⟨0,⟨0,0,0⟩,false⟩
 good:=afR_
 okgood c h:=afQ_ h
 law c h w F j y hj ht:=aoC_ h w F j y hj ht
 back a:=afP_ a
 mrg a b w F j y hj:=match j,hj with
  |0,_=>⟨fun h=>h,fun h=>h⟩
  |1,_=>⟨fun h=>h,fun h=>h⟩
  |2,_=>⟨fun h=>h,fun h=>h⟩
  |3,_=>⟨fun h=>h,fun h=>h⟩
  |4,_=>⟨fun h=>h,fun h=>h⟩
instance encQIm:EncQ Im where
 es0:=by decide
 mrg b x y j:=match j with
  |0=>by cases b<;>rfl
  |1=>by cases b<;>rfl
  |2=>by cases b<;>rfl
  |3=>by cases b<;>rfl
  |j+4=>by cases b<;>rfl
 cong c x h:=by
  have h0:=h 0 (by show 0<5;omega)
  have h1:=h 1 (by show 1<5;omega)
  have h2:=h 2 (by show 2<5;omega)
  have h3:=h 3 (by show 3<5;omega)
  have h4:=h 4 (by show 4<5;omega)
  refine⟨Eq.trans ?_ (afP_ x),?_⟩
  ·show imD c=imD (imE x)
   unfold imD
   rw[h0,h1,h2,h3,h4]
   rfl
  ·show imOk c=imOk (imE x)
   unfold imOk
   rw[h0,h1,h2,h3,h4]
   rfl
structure Wt where
 nu:Int
 ad:Int
 ev:Int
 du:Int
 bd:Vl
 mo:Int
 ha:Bool
 lo:Bool
 la:Vl
 sq:Int
 qu:List Im
 cqu:Nat
def wtE(x:Wt)(j:Nat):Td:=match j with
 |0=> .sc (.int .i64 x.nu)
 |1=> .sc (.int .i64 x.ad)
 |2=> .sc (.int .i64 x.ev)
 |3=> .sc (.int .i64 x.du)
 |4=> .sc (.int .i64 x.bd.k)
 |5=> .sc (.int .i64 x.bd.i)
 |6=> .sc (.float .f64 x.bd.f)
 |7=> .sc (.int .i64 x.mo)
 |8=> .sc (.bool x.ha)
 |9=> .sc (.bool x.lo)
 |10=> .sc (.int .i64 x.la.k)
 |11=> .sc (.int .i64 x.la.i)
 |12=> .sc (.float .f64 x.la.f)
 |13=> .sc (.int .i64 x.sq)
 |_=> .fr (Enc.es Im) x.qu.length x.cqu (encL x.qu)
def wtD(c:Nat→Td):Wt:=⟨intD (c 0),intD (c 1),intD (c 2),intD (c 3),⟨intD (c 4),intD (c 5),fltD (c 6)⟩,intD (c 7),bolD (c 8),bolD (c 9),⟨intD (c 10),intD (c 11),fltD (c 12)⟩,intD (c 13),a4_ Im (c 14),nilT (c 14)⟩
def wtOk(c:Nat→Td):Bool:=b9_ (c 0)&&b9_ (c 1)&&b9_ (c 2)&&b9_ (c 3)&&b9_ (c 4)&&b9_ (c 5)&&I6_ (c 6)&&b9_ (c 7)&&v4_ (c 8)&&v4_ (c 9)&&b9_ (c 10)&&b9_ (c 11)&&I6_ (c 12)&&b9_ (c 13)&&okT Im (c 14)
def adx_(c:Nat→Td):Prop:=b9_ (c 0)=true∧b9_ (c 1)=true∧b9_ (c 2)=true∧b9_ (c 3)=true∧b9_ (c 4)=true∧b9_ (c 5)=true∧I6_ (c 6)=true∧b9_ (c 7)=true∧v4_ (c 8)=true∧v4_ (c 9)=true∧b9_ (c 10)=true∧b9_ (c 11)=true∧I6_ (c 12)=true∧b9_ (c 13)=true∧p2_ Im (c 14)
theorem adw_{c:Nat→Td}(h:wtOk c=true):adx_ c:=by
 simp only[wtOk,Bool.and_eq_true]at h
 obtain⟨⟨⟨⟨⟨⟨⟨⟨⟨⟨⟨⟨⟨⟨h0,h1⟩,h2⟩,h3⟩,h4⟩,h5⟩,h6⟩,h7⟩,h8⟩,h9⟩,h10⟩,h11⟩,h12⟩,h13⟩,h14⟩:=h
 exact⟨h0,h1,h2,h3,h4,h5,h6,h7,h8,h9,h10,h11,h12,h13,h1_ h14⟩
theorem ane_{c:Nat→Td}(h:adx_ c)(w:World)(F:Nat→Prop)(j:Nat)(y:Value)(hj:j<15)(ht:TR w F (c j) y):TR w F (wtE (wtD c) j) y:=by
 obtain⟨h0,h1,h2,h3,h4,h5,h6,h7,h8,h9,h10,h11,h12,h13,h14⟩:=h
 match j,hj with
 |0,_=>rw[iI_ h0]at ht;exact ht
 |1,_=>rw[iI_ h1]at ht;exact ht
 |2,_=>rw[iI_ h2]at ht;exact ht
 |3,_=>rw[iI_ h3]at ht;exact ht
 |4,_=>rw[iI_ h4]at ht;exact ht
 |5,_=>rw[iI_ h5]at ht;exact ht
 |6,_=>rw[fI_ h6]at ht;exact ht
 |7,_=>rw[iI_ h7]at ht;exact ht
 |8,_=>rw[bI_ h8]at ht;exact ht
 |9,_=>rw[bI_ h9]at ht;exact ht
 |10,_=>rw[iI_ h10]at ht;exact ht
 |11,_=>rw[iI_ h11]at ht;exact ht
 |12,_=>rw[fI_ h12]at ht;exact ht
 |13,_=>rw[iI_ h13]at ht;exact ht
 |14,_=>exact f7_ (α:=Im) h14 ht
theorem adv_(a:Wt):wtD (wtE a)=a:=by
 obtain⟨nu,ad,ev,du,bd,mo,ha,lo,la,sq,qu,cqu⟩:=a
 show(⟨nu,ad,ev,du,bd,mo,ha,lo,la,sq,decL qu.length (encL qu),cqu⟩:Wt)=_
 rw[b4_]
instance encWt:Enc Wt where
 es:=15
 enc:=wtE
 dec:=wtD
 ok:=wtOk
 dflt:=⟨0,0,0,0,⟨0,0,0⟩,0,false,false,⟨0,0,0⟩,0,[],1⟩
 good:=adx_
 okgood c h:=adw_ h
 law c h w F j y hj ht:=ane_ h w F j y hj ht
 back a:=adv_ a
 mrg a b w F j y hj:=match j,hj with
  |0,_=>⟨fun h=>h,fun h=>h⟩
  |1,_=>⟨fun h=>h,fun h=>h⟩
  |2,_=>⟨fun h=>h,fun h=>h⟩
  |3,_=>⟨fun h=>h,fun h=>h⟩
  |4,_=>⟨fun h=>h,fun h=>h⟩
  |5,_=>⟨fun h=>h,fun h=>h⟩
  |6,_=>⟨fun h=>h,fun h=>h⟩
  |7,_=>⟨fun h=>h,fun h=>h⟩
  |8,_=>⟨fun h=>h,fun h=>h⟩
  |9,_=>⟨fun h=>h,fun h=>h⟩
  |10,_=>⟨fun h=>h,fun h=>h⟩
  |11,_=>⟨fun h=>h,fun h=>h⟩
  |12,_=>⟨fun h=>h,fun h=>h⟩
  |13,_=>⟨fun h=>h,fun h=>h⟩
  |14,_=>⟨d6_ (α:=Im) (by decide),c9_ (α:=Im) (by decide)⟩
instance encQWt:EncQ Wt where
 es0:=by decide
 mrg b x y j:=match j with
  |0=>by cases b<;>rfl
  |1=>by cases b<;>rfl
  |2=>by cases b<;>rfl
  |3=>by cases b<;>rfl
  |4=>by cases b<;>rfl
  |5=>by cases b<;>rfl
  |6=>by cases b<;>rfl
  |7=>by cases b<;>rfl
  |8=>by cases b<;>rfl
  |9=>by cases b<;>rfl
  |10=>by cases b<;>rfl
  |11=>by cases b<;>rfl
  |12=>by cases b<;>rfl
  |13=>by cases b<;>rfl
  |j+14=>F9_ b x.qu y.qu x.cqu y.cqu
 cong c x h:=by
  have h0:=h 0 (by show 0<15;omega)
  have h1:=h 1 (by show 1<15;omega)
  have h2:=h 2 (by show 2<15;omega)
  have h3:=h 3 (by show 3<15;omega)
  have h4:=h 4 (by show 4<15;omega)
  have h5:=h 5 (by show 5<15;omega)
  have h6:=h 6 (by show 6<15;omega)
  have h7:=h 7 (by show 7<15;omega)
  have h8:=h 8 (by show 8<15;omega)
  have h9:=h 9 (by show 9<15;omega)
  have h10:=h 10 (by show 10<15;omega)
  have h11:=h 11 (by show 11<15;omega)
  have h12:=h 12 (by show 12<15;omega)
  have h13:=h 13 (by show 13<15;omega)
  have h14:=h 14 (by show 14<15;omega)
  refine⟨Eq.trans ?_ (adv_ x),?_⟩
  ·show wtD c=wtD (wtE x)
   unfold wtD
   rw[h0,h1,h2,h3,h4,h5,h6,h7,h8,h9,h10,h11,h12,h13,h14]
   rfl
  ·show wtOk c=wtOk (wtE x)
   unfold wtOk
   rw[h0,h1,h2,h3,h4,h5,h6,h7,h8,h9,h10,h11,h12,h13,h14]
   rfl
theorem afq_{x:Wt}(h0:x.qu.all (okA Im)=true)(l0:x.qu.length≤1000000)(c0:x.cqu≤1):okA Wt x=true:=by
 show(true&&true&&true&&true&&true&&true&&true&&true&&true&&true&&true&&true&&true&&true&&okT Im (tdL x.qu x.cqu))=true
 rw[d0_ h0 l0 c0];rfl
theorem r0_{x:Wt}(h:okA Wt x=true):x.qu.all (okA Im)=true∧x.qu.length≤1000000∧x.cqu≤1:=by
 have h:(true&&true&&true&&true&&true&&true&&true&&true&&true&&true&&true&&true&&true&&true&&okT Im (tdL x.qu x.cqu))=true:=h
 simp only[Bool.and_eq_true]at h
 obtain⟨⟨⟨⟨⟨⟨⟨⟨⟨⟨⟨⟨⟨⟨h0,h1⟩,h2⟩,h3⟩,h4⟩,h5⟩,h6⟩,h7⟩,h8⟩,h9⟩,h10⟩,h11⟩,h12⟩,h13⟩,h14⟩:=h
 have k0:=b7_ h14
 have m0:=oTa h14
 rw[lT_,n0_]at k0
 exact⟨m0,k0.1,k0.2⟩
structure Ss where
 on:Bool
 se:Int
 fb:List U8
 cfb:Nat
 ba:Bool
 ins:List Ms
 cins:Nat
 out:List Ms
 cout:Nat
 sub:List Wt
 csub:Nat
 num:Int
def ssE(x:Ss)(j:Nat):Td:=match j with
 |0=> .sc (.bool x.on)
 |1=> .sc (.int .i64 x.se)
 |2=> .fr (Enc.es U8) x.fb.length x.cfb (encL x.fb)
 |3=> .sc (.bool x.ba)
 |4=> .fr (Enc.es Ms) x.ins.length x.cins (encL x.ins)
 |5=> .fr (Enc.es Ms) x.out.length x.cout (encL x.out)
 |6=> .fr (Enc.es Wt) x.sub.length x.csub (encL x.sub)
 |_=> .sc (.int .i64 x.num)
def ssD(c:Nat→Td):Ss:=⟨bolD (c 0),intD (c 1),a4_ U8 (c 2),nilT (c 2),bolD (c 3),a4_ Ms (c 4),nilT (c 4),a4_ Ms (c 5),nilT (c 5),a4_ Wt (c 6),nilT (c 6),intD (c 7)⟩
def ssOk(c:Nat→Td):Bool:=v4_ (c 0)&&b9_ (c 1)&&okT U8 (c 2)&&v4_ (c 3)&&okT Ms (c 4)&&okT Ms (c 5)&&okT Wt (c 6)&&b9_ (c 7)
def aev_(c:Nat→Td):Prop:=v4_ (c 0)=true∧b9_ (c 1)=true∧p2_ U8 (c 2)∧v4_ (c 3)=true∧p2_ Ms (c 4)∧p2_ Ms (c 5)∧p2_ Wt (c 6)∧b9_ (c 7)=true
theorem aeu_{c:Nat→Td}(h:ssOk c=true):aev_ c:=by
 simp only[ssOk,Bool.and_eq_true]at h
 obtain⟨⟨⟨⟨⟨⟨⟨h0,h1⟩,h2⟩,h3⟩,h4⟩,h5⟩,h6⟩,h7⟩:=h
 exact⟨h0,h1,h1_ h2,h3,h1_ h4,h1_ h5,h1_ h6,h7⟩
theorem aob_{c:Nat→Td}(h:aev_ c)(w:World)(F:Nat→Prop)(j:Nat)(y:Value)(hj:j<8)(ht:TR w F (c j) y):TR w F (ssE (ssD c) j) y:=by
 obtain⟨h0,h1,h2,h3,h4,h5,h6,h7⟩:=h
 match j,hj with
 |0,_=>rw[bI_ h0]at ht;exact ht
 |1,_=>rw[iI_ h1]at ht;exact ht
 |2,_=>exact f7_ (α:=U8) h2 ht
 |3,_=>rw[bI_ h3]at ht;exact ht
 |4,_=>exact f7_ (α:=Ms) h4 ht
 |5,_=>exact f7_ (α:=Ms) h5 ht
 |6,_=>exact f7_ (α:=Wt) h6 ht
 |7,_=>rw[iI_ h7]at ht;exact ht
theorem aet_(a:Ss):ssD (ssE a)=a:=by
 obtain⟨on,se,fb,cfb,ba,ins,cins,out,cout,sub,csub,num⟩:=a
 show(⟨on,se,decL fb.length (encL fb),cfb,ba,decL ins.length (encL ins),cins,decL out.length (encL out),cout,decL sub.length (encL sub),csub,num⟩:Ss)=_
 rw[b4_,b4_,b4_,b4_]
instance encSs:Enc Ss where
 es:=8
 enc:=ssE
 dec:=ssD
 ok:=ssOk
 dflt:=⟨false,0,[],1,false,[],1,[],1,[],1,0⟩
 good:=aev_
 okgood c h:=aeu_ h
 law c h w F j y hj ht:=aob_ h w F j y hj ht
 back a:=aet_ a
 mrg a b w F j y hj:=match j,hj with
  |0,_=>⟨fun h=>h,fun h=>h⟩
  |1,_=>⟨fun h=>h,fun h=>h⟩
  |2,_=>⟨d6_ (α:=U8) (by decide),c9_ (α:=U8) (by decide)⟩
  |3,_=>⟨fun h=>h,fun h=>h⟩
  |4,_=>⟨d6_ (α:=Ms) (by decide),c9_ (α:=Ms) (by decide)⟩
  |5,_=>⟨d6_ (α:=Ms) (by decide),c9_ (α:=Ms) (by decide)⟩
  |6,_=>⟨d6_ (α:=Wt) (by decide),c9_ (α:=Wt) (by decide)⟩
  |7,_=>⟨fun h=>h,fun h=>h⟩
instance encQSs:EncQ Ss where
 es0:=by decide
 mrg b x y j:=match j with
  |0=>by cases b<;>rfl
  |1=>by cases b<;>rfl
  |2=>F9_ b x.fb y.fb x.cfb y.cfb
  |3=>by cases b<;>rfl
  |4=>F9_ b x.ins y.ins x.cins y.cins
  |5=>F9_ b x.out y.out x.cout y.cout
  |6=>F9_ b x.sub y.sub x.csub y.csub
  |j+7=>by cases b<;>rfl
 cong c x h:=by
  have h0:=h 0 (by show 0<8;omega)
  have h1:=h 1 (by show 1<8;omega)
  have h2:=h 2 (by show 2<8;omega)
  have h3:=h 3 (by show 3<8;omega)
  have h4:=h 4 (by show 4<8;omega)
  have h5:=h 5 (by show 5<8;omega)
  have h6:=h 6 (by show 6<8;omega)
  have h7:=h 7 (by show 7<8;omega)
  refine⟨Eq.trans ?_ (aet_ x),?_⟩
  ·show ssD c=ssD (ssE x)
   unfold ssD
   rw[h0,h1,h2,h3,h4,h5,h6,h7]
   rfl
  ·show ssOk c=ssOk (ssE x)
   unfold ssOk
   rw[h0,h1,h2,h3,h4,h5,h6,h7]
   rfl
theorem W0_{x:Ss}(h0:x.fb.all (okA U8)=true)(l0:x.fb.length≤1000000)(c0:x.cfb≤1)(h1:x.ins.all (okA Ms)=true)(l1:x.ins.length≤1000000)(c1:x.cins≤1)(h2:x.out.all (okA Ms)=true)(l2:x.out.length≤1000000)(c2:x.cout≤1)(h3:x.sub.all (okA Wt)=true)(l3:x.sub.length≤1000000)(c3:x.csub≤1):okA Ss x=true:=by
 show(true&&true&&okT U8 (tdL x.fb x.cfb)&&true&&okT Ms (tdL x.ins x.cins)&&okT Ms (tdL x.out x.cout)&&okT Wt (tdL x.sub x.csub)&&true)=true
 rw[d0_ h0 l0 c0,d0_ h1 l1 c1,d0_ h2 l2 c2,d0_ h3 l3 c3];rfl
theorem g6_{x:Ss}(h:okA Ss x=true):x.fb.all (okA U8)=true∧x.fb.length≤1000000∧x.cfb≤1∧x.ins.all (okA Ms)=true∧x.ins.length≤1000000∧x.cins≤1∧x.out.all (okA Ms)=true∧x.out.length≤1000000∧x.cout≤1∧x.sub.all (okA Wt)=true∧x.sub.length≤1000000∧x.csub≤1:=by
 have h:(true&&true&&okT U8 (tdL x.fb x.cfb)&&true&&okT Ms (tdL x.ins x.cins)&&okT Ms (tdL x.out x.cout)&&okT Wt (tdL x.sub x.csub)&&true)=true:=h
 simp only[Bool.and_eq_true]at h
 obtain⟨⟨⟨⟨⟨⟨⟨h0,h1⟩,h2⟩,h3⟩,h4⟩,h5⟩,h6⟩,h7⟩:=h
 have k0:=b7_ h2
 have m0:=oTa h2
 rw[lT_,n0_]at k0
 have k1:=b7_ h4
 have m1:=oTa h4
 rw[lT_,n0_]at k1
 have k2:=b7_ h5
 have m2:=oTa h5
 rw[lT_,n0_]at k2
 have k3:=b7_ h6
 have m3:=oTa h6
 rw[lT_,n0_]at k3
 exact⟨m0,k0.1,k0.2,m1,k1.1,k1.2,m2,k2.1,k2.2,m3,k3.1,k3.2⟩
theorem aiW_{C:Told}(hC:a8_ Tryz.prog C):a8_ Tryz.prog (C.also 82 bitsSpec):=by
 refine Told.also_ok hC ?_
 intro args v hv
 unfold bitsSpec at hv
 split at hv
 ·rename_i a
  cases hv
  refine⟨rfl,rfl,fun w args' ha=> ?_⟩
  refine y6_ (fuel:=100) (n:=20) follows (o8_ _) ?_ w args' ha
  rw[abi_];exact H5_ a
 ·cases hv
theorem ahM_{C:Told}(hC:a8_ Tryz.prog C):a8_ Tryz.prog (C.also 59 sameSpec):=by
 refine Told.also_ok hC ?_
 intro args v hv
 unfold sameSpec at hv
 split at hv
 ·rename_i a b
  cases hv
  refine⟨rfl,rfl,fun w args' ha=> ?_⟩
  refine y6_ (fuel:=100) (n:=20) follows m6_ ?_ w args' ha
  rw[abh_,aeD_];rfl
 ·cases hv
theorem adP_(a:Nat)(K:AE→ASt→Prop):funK Tryz.prog noTold 100 20 102 [.float .f64 a] st0 K=
  br (Ieee.double.order a a !=some .eq) (K (.returned (.int .u64 (Int.ofNat 9221120237041090561))) st0) (need (!nanB .f64 a) (K (.returned (.int .u64 (Int.ofNat a))) st0)):=by kernel_rfl
theorem aeX_{C:Told}(hC:a8_ Tryz.prog C):a8_ Tryz.prog (C.also 102 bitsSpec):=by
 refine Told.also_ok hC ?_
 intro args v hv
 unfold bitsSpec at hv
 split at hv
 ·rename_i a
  cases hv
  refine⟨rfl,rfl,fun w args' ha=> ?_⟩
  refine y6_ (fuel:=100) (n:=20) follows (o8_ _) ?_ w args' ha
  rw[adP_];exact H5_ a
 ·cases hv
theorem aaP_:c5_ Tryz.prog 90 (okC 3) (ansC 3):=l9_ follows (fun n c f β K=>by kernel_rfl) (fun es' f β K=>by kernel_rfl)
theorem aaR_:c5_ Tryz.prog 89 (okC 1) (ansC 1):=l9_ follows (fun n c f β K=>by kernel_rfl) (fun es' f β K=>by kernel_rfl)
theorem aaO_:c5_ Tryz.prog 49 (okC 15) (ansC 15):=l9_ follows (fun n c f β K=>by kernel_rfl) (fun es' f β K=>by kernel_rfl)
theorem aaS_:c5_ Tryz.prog 50 (okC 5) (ansC 5):=l9_ follows (fun n c f β K=>by kernel_rfl) (fun es' f β K=>by kernel_rfl)
def ajF_:Told:=anR_
theorem aeh_:a8_ Tryz.prog ajF_:=ahv_
def ajE_:Told:=((ajF_.also 82 bitsSpec).also 59 sameSpec).also 102 bitsSpec
theorem aeg_:a8_ Tryz.prog ajE_:=aeX_ (ahM_ (aiW_ aeh_))
def ajD_:Told:=ajE_.tree 36 (ok2 Vl Vl fun _ _ _ _=>true) (ans2 Vl Vl fun l _ m _=>bAns (d5_ l m))
theorem aef_:a8_ Tryz.prog ajD_:=Told.tree_ok aeg_ aeC_
def ajC_:Told:=(ajD_.tree 90 (okC 3) (ansC 3)).tree 89 (okC 1) (ansC 1)
theorem aee_:a8_ Tryz.prog ajC_:=Told.tree_ok (Told.tree_ok aef_ aaP_) aaR_
def ahw_:Told:=(ajC_.tree 49 (okC 15) (ansC 15)).tree 50 (okC 5) (ansC 5)
theorem abq_:a8_ Tryz.prog ahw_:=Told.tree_ok (Told.tree_ok aee_ aaO_) aaS_
theorem apb_(k v:Int)(K:AE→Prop):funK Tryz.prog ahw_ 100 70 67 [.int .i64 k,.int .i64 v] st0 (fun r _=>K r)=
 (br (k==(1:Int)) (br (v !=(0:Int)) (K (.returned (.int .i64 (1:Int)))) (K (.returned (.int .i64 (0:Int))))) (br (k==(2:Int)) (br (decide (Int.tmod v (65536:Int)<(0:Int))) (br (decide (IntKind.wrap .i64 (Int.tmod v (65536:Int)+(65536:Int))≥(32768:Int))) (K (.returned (.int .i64 (IntKind.wrap .i64 (IntKind.wrap .i64 (Int.tmod v (65536:Int)+(65536:Int))-(65536:Int)))))) (K (.returned (.int .i64 (IntKind.wrap .i64 (Int.tmod v (65536:Int)+(65536:Int))))))) (br (decide (Int.tmod v (65536:Int)≥(32768:Int))) (K (.returned (.int .i64 (IntKind.wrap .i64 (Int.tmod v (65536:Int)-(65536:Int)))))) (K (.returned (.int .i64 (Int.tmod v (65536:Int))))))) (br (k==(3:Int)) (br (decide (Int.tmod v (4294967296:Int)<(0:Int))) (br (decide (IntKind.wrap .i64 (Int.tmod v (4294967296:Int)+(4294967296:Int))≥(2147483648:Int))) (K (.returned (.int .i64 (IntKind.wrap .i64 (IntKind.wrap .i64 (Int.tmod v (4294967296:Int)+(4294967296:Int))-(4294967296:Int)))))) (K (.returned (.int .i64 (IntKind.wrap .i64 (Int.tmod v (4294967296:Int)+(4294967296:Int))))))) (br (decide (Int.tmod v (4294967296:Int)≥(2147483648:Int))) (K (.returned (.int .i64 (IntKind.wrap .i64 (Int.tmod v (4294967296:Int)-(4294967296:Int)))))) (K (.returned (.int .i64 (Int.tmod v (4294967296:Int))))))) (br (k==(4:Int)) (K (.returned (.int .i64 v))) (K (.returned (.int .i64 (0:Int)))))))):=by kernel_rfl
def wrF(k v:Int):Int:=if k=1 then(if v=0 then 0 else 1)else if k=2 then IntKind.wrap .i16 v else if k=3 then IntKind.wrap .i32 v else if k=4 then v else 0
theorem wr16(x:Int):IntKind.wrap .i16 x=if x%65536<32768 then x%65536 else x%65536-65536:=by
 unfold IntKind.wrap
 simp[IntKind.signed,IntKind.bits]
 split<;>split<;>omega
theorem wr32(x:Int):IntKind.wrap .i32 x=if x%4294967296<2147483648 then x%4294967296 else x%4294967296-4294967296:=by
 unfold IntKind.wrap
 simp[IntKind.signed,IntKind.bits]
 split<;>split<;>omega
theorem anT_(v:Int)(n:Int)(hn:0<n):Int.tmod v n=if 0≤v then v%n else-((-v)%n):=by
 by_cases h:0≤v
 ·rw[if_pos h];exact Int.tmod_eq_emod_of_nonneg h
 ·rw[if_neg h]
  have:Int.tmod (-(-v)) n= -(Int.tmod (-v) n):=Int.neg_tmod _ _
  rw[Int.neg_neg]at this
  rw[this,Int.tmod_eq_emod_of_nonneg (by omega)]
theorem akp_(k v:Int):funK Tryz.prog ahw_ 100 70 67 [.int .i64 k,.int .i64 v] st0 (fun r _=>r= .returned (.int .i64 (wrF k v))):=by
 rw[apb_ k v fun r=>r= .returned (.int .i64 (wrF k v))]
 have t1:=anT_ v 65536 (by omega)
 have t2:=anT_ v 4294967296 (by omega)
 have e1:=wr16 v
 have e2:=wr32 v
 have hw: ∀x:Int,-9223372036854775808≤x→x<9223372036854775808→IntKind.wrap .i64 x=x:=fun x h1 h2=>w64 h1 h2
 generalize hA:Int.tmod v 65536=A at*
 generalize hB:Int.tmod v 4294967296=B at*
 have a1: -65536<A∧A<65536:=by split at t1<;>omega
 have b1: -4294967296<B∧B<4294967296:=by split at t2<;>omega
 rw[hw (A+65536) (by omega) (by omega),hw (A-65536) (by omega) (by omega),hw (A+65536-65536) (by omega) (by omega),hw (B+4294967296) (by omega) (by omega),hw (B-4294967296) (by omega) (by omega),hw (B+4294967296-4294967296) (by omega) (by omega)]
 unfold wrF
 rw[e1,e2]
 repeat' (with_reducible refine a0_ (fun _=> ?_) (fun _=> ?_))
 all_goals refine congrArg (fun x=>AE.returned (.int .i64 x)) ?_
 all_goals simp only[beq_iff_eq,beq_eq_false_iff_ne,bne_iff_ne,bne_eq_false_iff_eq,decide_eq_true_eq,decide_eq_false_iff_not,ne_eq,Decidable.not_not]at*
 all_goals (split at t1<;>split at t2<;>(repeat' split)<;>first|rfl|omega)
def wrSpec:List Value→Option Value
 |[.int .i64 k,.int .i64 v]=>some (.int .i64 (wrF k v))
 |_=>none
def S4_:Told:=ahw_.also 67 wrSpec
theorem S3_:a8_ Tryz.prog S4_:=by
 refine Told.also_ok abq_ ?_
 intro args v hv
 unfold wrSpec at hv
 split at hv
 ·rename_i k v
  cases hv
  exact⟨rfl,rfl,fun w args' ha=>y6_ (fuel:=100) (n:=70) follows abq_ (akp_ k v) w args' ha⟩
 ·cases hv
def viP(l:List U8)(c:Nat)(n:Int):List (Option AObj):=[some (.cells [.slice (some ⟨1,0,some 0⟩) l.length c,.int .i64 n] true 0),some (rowO .look l)]
def numF(l:List U8)(n m:Int):Int×Int:=cond (decide (n≥Int.ofNat l.length)) (0,n) (Int.tmod (l.getD n.toNat Enc.dflt).v m,n+1)
theorem anF_(l:List U8)(c:Nat)(n m:Int)(β:Bs)(K:AE→List (Option AObj)→Prop):lawE Tryz.prog S4_ 100 20 β (fun _=>0) (cnOf 2 fun _=>[]) (fun _ _=>False) 21 [.pointer (some ⟨0,0,none⟩),.int .i64 m] (mkS (viP l c n)) (outK K)=
 (fun(z1:Nat) (z2:Int)=>((fun(z0:Int) (z3:AObj)=>((fun(z4:Nat)=>(br (decide (n≥Int.ofNat z1)) (K (.returned (.int .i64 (0:Int))) [some (.cells [.slice (some ⟨1,0,some 0⟩) z1 c,.int .i64 n] true 0),some z3]) (need (decide ((0:Int)≤IntKind.wrap .i64 z2)) (need (Nat.blt (Int.toNat z0) z1) (need (Nat.ble 0 z4&&Nat.blt z4 z1) (need (true&& !decide (m=(0:Int))) (K (.returned (.int .i64 (Int.tmod (IntKind.wrap .i64 (U8.v (List.getD l z4 Enc.dflt))) m))) [some (.cells [.slice (some ⟨1,0,some 0⟩) z1 c,.int .i64 (IntKind.wrap .i64 (n+(1:Int)))] true 0),some z3]))))))) (0+Int.toNat z0))) (IntKind.wrap .i64 z2) (.row .look 1 0 z1 (encL l)))) l.length (IntKind.wrap .i64 (n+(1:Int))-(1:Int)):=by kernel_rfl
structure PkOk (l:List U8) (n:Int):Prop where
 all:l.all (okA U8)=true
 len:l.length≤1000000
 nn:0≤n
theorem alC_(a:U8)(h:okA U8 a=true):0≤a.v∧a.v<256:=by
 have h:(decide (0≤a.v)&&decide (a.v<256))=true:=h
 simpa using h
theorem v8_{l:List U8}(h:l.all (okA U8)=true){i:Nat}(hi:i<l.length):0≤(l.getD i Enc.dflt).v∧(l.getD i Enc.dflt).v<256:=by
 rw[List.all_eq_true]at h
 have:l.getD i Enc.dflt=l[i]:=by simp[List.getD,hi]
 rw[this]
 exact alC_ _ (h _ (List.getElem_mem hi))
def pkO(k c:Nat)(n:Int):AObj:= .cells [.slice (some ⟨1,0,some 0⟩) k c,.int .i64 n] true 0
abbrev PkD:Type:=List Value→Option (List U8→Int→Bool×AE×Int)
def spPk(dec:PkD)(args:List Value)(objs:List (Option AObj)):Option SpT:=match args,objs with
 | .pointer (some ⟨0,0,none⟩)::xs,[some (.cells [.slice (some ⟨1,0,some 0⟩) k c,.int .i64 n] true 0),o1]=>match dec xs with
  |some F=>some (.one ⟨rowB U8 k c o1&&(rowL U8 k o1).all (okA U8)&&decide (0≤n)&&(F (rowL U8 k o1) n).1,viP (rowL U8 k o1) c n,(F (rowL U8 k o1) n).2.1,[.to (pkO k c (F (rowL U8 k o1) n).2.2),.same],[]⟩)
  |none=>none
 |_,_=>none
theorem O3_{P:Program}{g:FuncId}{dec:PkD}
  (h: ∀xs F (l:List U8) (c:Nat) (n:Int),dec xs=some F→PkOk l n→(F l n).1=true→c≤1→ ∃(C:Told) (fuel k:Nat) (un:Nat→Nat) (lvs:Nat→List Nat) (ex:Nat→Kt→Prop),a8_ P C∧
   ∀β:Bs,β.X.length=2→ ∀K:AE→List (Option AObj)→Prop,(∀m,m[0]? =some (some (pkO l.length c (F l n).2.2))→K (F l n).2.1 m)→
    lawE P C fuel k β un (cnOf 2 lvs) ex g (.pointer (some ⟨0,0,none⟩)::xs) (mkS (viP l c n)) (outK K))
  (hr: ∀xs F l n,dec xs=some F→bkE (lkAt 2 []) (F l n).2.1=(F l n).2.1):Z4_ P g (pickS (spPk dec)):=by
 intro args objs s hs hb
 unfold pickS spPk at hs
 split at hs
 ·rename_i xs k c n o1
  split at hs
  ·rename_i F hd
   simp only[Option.map_some,Option.some.injEq,SpT.pick]at hs
   subst hs
   have hb':=hb
   simp only[Bool.and_eq_true]at hb'
   obtain⟨⟨⟨b1,b2⟩,b3⟩,b4⟩:=hb'
   obtain⟨l1,m1,c1,v1⟩:=N3_ b1
   refine⟨⟨rfl,fun i o h=> ?_⟩,?_⟩
   ·match i,h with
    |0,h=>cases h;exact⟨_,by rw[l1];rfl,fun h=>h,fun _ _ _ h=>h⟩
    |1,h=>cases h;obtain⟨q,rfl,hq⟩:=v1;exact⟨q,rfl,(fun h=>by cases h),hq⟩
    |_+2,h=>simp[viP]at h
   obtain⟨C,fuel,kk,un,lvs,ex,hC,hl⟩:=h xs F (rowL U8 k o1) c n hd ⟨b2,by rw[l1];exact m1,of_decide_eq_true b3⟩ b4 c1
   refine⟨C,fuel,kk,un,lvs,ex,hC,fun β hβ=> ?_⟩
   refine hl β hβ (fun r l=> ∃l2,a6_ l l2∧effK ⟨rowB U8 k c o1&&(rowL U8 k o1).all (okA U8)&&decide (0≤n)&&(F (rowL U8 k o1) n).1,viP (rowL U8 k o1) c n,(F (rowL U8 k o1) n).2.1,[.to (pkO k c (F (rowL U8 k o1) n).2.2),.same],[]⟩ r (mkS l2)) fun m hm=> ?_
   rw[l1]at hm
   refine⟨m,a6_.refl _,[],rfl,List.nodup_nil,by simp,(hr xs F _ n hd).symm,fun i o h=> ?_,fun j x o h=>by simp at h⟩
   match i,h with
   |0,h=>cases h;rw[b5_,hm];rfl
   |1,h=>cases h
   |i+2,h=>simp at h
  ·cases hs
 ·cases hs
def deN:PkD:=fun xs=>match xs with
 |[.int .i64 m]=>some fun l n=>(decide (m≠0),.returned (.int .i64 (numF l n m).1),(numF l n m).2)
 |_=>none
theorem alF_{l:List U8}{n m:Int}{β:Bs}{K:AE→List (Option AObj)→Prop}(hp:PkOk l n)(hm:m≠0)(c:Nat)(hK: ∀q,q[0]? =some (some (pkO l.length c (numF l n m).2))→K (.returned (.int .i64 (numF l n m).1)) q):
  lawE Tryz.prog S4_ 100 20 β (fun _=>0) (cnOf 2 fun _=>[]) (fun _ _=>False) 21 [.pointer (some ⟨0,0,none⟩),.int .i64 m] (mkS (viP l c n)) (outK K):=by
 refine(anF_ l c n m β K).mpr ?_
 try dsimp only
 have hlen:=hp.len
 have hnn:=hp.nn
 refine a0_ (fun hd=> ?_) (fun hd=> ?_)
 ·have e1:numF l n m=(0,n):=by unfold numF;rw[hd];rfl
  rw[e1]at hK
  exact hK _ rfl
 ·have hlt:n<(l.length:Int):=by simpa using hd
  have w1:IntKind.wrap .i64 (n+1)=n+1:=w64 (by omega) (by omega)
  have w2:IntKind.wrap .i64 (n+1-1)=n:=by rw[w64 (by omega) (by omega)];omega
  have hn:n.toNat<l.length:=by omega
  obtain⟨u1,u2⟩:=v8_ hp.all hn
  have w3:IntKind.wrap .i64 (l.getD n.toNat Enc.dflt).v=(l.getD n.toNat Enc.dflt).v:=w64 (by omega) (by omega)
  have e1:numF l n m=(Int.tmod (l.getD n.toNat Enc.dflt).v m,n+1):=by unfold numF;rw[hd];rfl
  rw[e1]at hK
  rw[w1,w2,Nat.zero_add,w3]
  refine nd_ (by simpa using hnn) (nd_ (by simpa using hn) (nd_ (by simpa using hn) (nd_ (by simpa using hm) (hK _ rfl))))
theorem ais_:Z4_ Tryz.prog 21 (pickS (spPk deN)):=by
 refine O3_ (fun xs F l c n hd hp hb hc=> ?_) (fun xs F l n hd=> ?_)
 ·unfold deN at hd
  split at hd
  ·rename_i m
   cases hd
   exact⟨S4_,100,20,fun _=>0,fun _=>[],fun _ _=>False,S3_,fun β _ K hK=>alF_ hp (by simpa using hb) c hK⟩
  ·cases hd
 ·unfold deN at hd
  split at hd
  ·cases hd;rfl
  ·cases hd
def toldP2:Told:=S4_.effT 21 (spPk deN)
theorem toldP2_ok:a8_ Tryz.prog toldP2:=Told.effT_ok follows S3_ ais_
theorem nF_{l:List U8}{n m:Int}(hp:PkOk l n)(hm:0<m):0≤(numF l n m).1∧(numF l n m).1<m∧PkOk l (numF l n m).2:=by
 unfold numF
 cases hd:decide (n≥Int.ofNat l.length)with
 |true=>exact⟨Int.le_refl _,hm,hp⟩
 |false=>
  have hlt:n<(l.length:Int):=by simpa using hd
  have hn:n.toNat<l.length:=by have:=hp.nn;omega
  obtain⟨u1,u2⟩:=v8_ hp.all hn
  have hnn:=hp.nn
  refine⟨?_,?_,⟨hp.all,hp.len,by show 0≤n+1;omega⟩⟩
  ·exact Int.tmod_nonneg _ u1
  ·show Int.tmod _ _<m
   exact Int.tmod_lt_of_pos _ hm
def Lr(l:List U8):List U8:=rowL U8 (List.length l) (some (.row .look 1 0 (List.length l) (encL l)))
def Br(l:List U8)(c:Nat):Bool:=rowB U8 (List.length l) c (some (.row .look 1 0 (List.length l) (encL l)))
theorem Z3_(l:List U8):Lr l=l:=c7_ l _ _ _ _
theorem PkOk.br{l:List U8}{n:Int}(hp:PkOk l n){c:Nat}(hc:c≤1):Br l c=true:=N4_ .look rfl rfl hp.all hp.len hc
theorem akz_(l:List U8)(c:Nat)(n:Int)(β:Bs)(K:AE→List (Option AObj)→Prop):lawE Tryz.prog toldP2 100 20 β (fun _=>0) (cnOf 2 fun _=>[]) (fun _ _=>False) 44 [.pointer (some ⟨0,0,none⟩)] (mkS (viP l c n)) (outK K)=
 (fun(z4:Nat)=>((fun(z3:AObj)=>((fun(z2:List U8)=>((fun(z5:Int×Int)=>((fun(z0:List (Option AObj)) (z1:Nat)=>(need (rowB U8 z4 c (some z3)&&List.all z2 (okA U8)&&decide ((0:Int)≤n)&&true) (need (decide ((0:Int)≤Prod.fst z5)) (br (Nat.beq z1 0) (K (.returned (.float .f64 0)) z0) (br (Nat.beq z1 1) (K (.returned (.float .f64 9223372036854775808)) z0) (br (Nat.beq z1 2) (K (.returned (.float .f64 4607182418800017408)) z0) (br (Nat.beq z1 3) (K (.returned (.float .f64 13830554455654793216)) z0) (br (Nat.beq z1 4) (K (.returned (.float .f64 4602678819172646912)) z0) (br (Nat.beq z1 5) (K (.returned (.float .f64 4612811918334230528)) z0) (br (Nat.beq z1 6) (K (.returned (.float .f64 13838998704956112896)) z0) (br (Nat.beq z1 7) (K (.returned (.float .f64 9094988921128908188)) z0) (br (Nat.beq z1 8) (K (.returned (.float .f64 2024)) z0) (br (Nat.beq z1 9) (K (.returned (.float .f64 9218868437227405312)) z0) (br (Nat.beq z1 10) (K (.returned (.float .f64 18442240474082181120)) z0) (br (Nat.beq z1 11) (K (.returned (.float .f64 9221120237041090560)) z0) (br (Nat.beq z1 12) (K (.returned (.float .f64 4674736413210574848)) z0) (br (Nat.beq z1 13) (K (.returned (.float .f64 4891288408196988160)) z0) (need (Nat.beq z1 14) (K (.returned (.float .f64 4636737291354636288)) z0))))))))))))))))))) [some (.cells [.slice (some ⟨1,0,some 0⟩) z4 c,.int .i64 (Prod.snd z5)] true 0),some z3,some (.cells [.float .f64 0,.float .f64 9223372036854775808,.float .f64 4607182418800017408,.float .f64 13830554455654793216,.float .f64 4602678819172646912,.float .f64 4612811918334230528,.float .f64 13838998704956112896,.float .f64 9094988921128908188,.float .f64 2024,.float .f64 9218868437227405312,.float .f64 18442240474082181120,.float .f64 9221120237041090560,.float .f64 4674736413210574848,.float .f64 4891288408196988160,.float .f64 4636737291354636288] true 1),none] (Int.toNat (Prod.fst z5)))) (numF z2 n (15:Int)))) (rowL U8 z4 (some z3)))) (.row .look 1 0 z4 (encL l)))) l.length:=by kernel_rfl
theorem ahi_(l:List U8)(c:Nat)(n k:Int)(β:Bs)(K:AE→List (Option AObj)→Prop):lawE Tryz.prog toldP2 100 20 β (fun _=>0) (cnOf 2 fun _=>[]) (fun _ _=>False) 45 [.pointer (some ⟨0,0,none⟩),.int .i64 k] (mkS (viP l c n)) (outK K)=
 (fun(z4:Nat) (z6 z7:Int)=>((fun(z3:AObj)=>((fun(z2:List U8)=>((fun(z5:Int×Int)=>((fun(z0:List (Option AObj)) (z1:Nat)=>(need (rowB U8 z4 c (some z3)&&List.all z2 (okA U8)&&decide ((0:Int)≤n)&&true) (need (decide ((0:Int)≤Prod.fst z5)) (br (Nat.beq z1 0) (K (.returned (.int .i64 (wrF k (0:Int)))) z0) (br (Nat.beq z1 1) (K (.returned (.int .i64 (wrF k (1:Int)))) z0) (br (Nat.beq z1 2) (K (.returned (.int .i64 (wrF k (2:Int)))) z0) (br (Nat.beq z1 3) (K (.returned (.int .i64 (wrF k (3:Int)))) z0) (br (Nat.beq z1 4) (K (.returned (.int .i64 (wrF k (-1:Int)))) z0) (br (Nat.beq z1 5) (K (.returned (.int .i64 (wrF k (7:Int)))) z0) (br (Nat.beq z1 6) (K (.returned (.int .i64 (wrF k (32767:Int)))) z0) (br (Nat.beq z1 7) (K (.returned (.int .i64 (wrF k (-32768:Int)))) z0) (br (Nat.beq z1 8) (K (.returned (.int .i64 (wrF k (2147483647:Int)))) z0) (br (Nat.beq z1 9) (K (.returned (.int .i64 (wrF k (-2147483648:Int)))) z0) (br (Nat.beq z1 10) (K (.returned (.int .i64 (wrF k (100:Int)))) z0) (br (Nat.beq z1 11) (K (.returned (.int .i64 (wrF k z7))) z0) (need (Nat.beq z1 12) (K (.returned (.int .i64 (wrF k z6))) z0))))))))))))))))) [some (.cells [.slice (some ⟨1,0,some 0⟩) z4 c,.int .i64 (Prod.snd z5)] true 0),some z3,some (.cells [.int .i64 (0:Int),.int .i64 (1:Int),.int .i64 (2:Int),.int .i64 (3:Int),.int .i64 (-1:Int),.int .i64 (7:Int),.int .i64 (32767:Int),.int .i64 (-32768:Int),.int .i64 (2147483647:Int),.int .i64 (-2147483648:Int),.int .i64 (100:Int),.int .i64 z7,.int .i64 z6] true 1),none] (Int.toNat (Prod.fst z5)))) (numF z2 n (13:Int)))) (rowL U8 z4 (some z3)))) (.row .look 1 0 z4 (encL l)))) l.length (-9223372036854775808:Int) (9223372036854775807:Int):=by kernel_rfl
end Go.Proofs.YtachglcffimmeaaGreat.Ev
