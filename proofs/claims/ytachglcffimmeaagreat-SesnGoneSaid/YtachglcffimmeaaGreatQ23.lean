/-
  Messages, subscriptions, sessions: data that lie in cells.
-/
import Derived.Test.YtachglcffimmeaaGreatQ22
import Derived.Test.YtachglcffimmeaaGreatQ19
set_option linter.unusedVariables false
set_option linter.unusedSimpArgs false
set_option maxRecDepth 1000000
namespace Go.Proofs.YtachglcffimmeaaGreat.Ev
open Go Go.Proofs Go.RowKit
class EncQ (α:Type) [Enc α]:Prop where
 es0:Enc.es α≠0
 mrg: ∀(b:Bool) (x y:α) (j:Nat),mrgT b (Enc.enc x j) (Enc.enc y j)=cond b (Enc.enc x j) (Enc.enc y j)
 cong: ∀(c:Nat→Td) (x:α),(∀j,j<Enc.es α→c j=Enc.enc x j)→(Enc.dec c:α)=x∧Enc.ok α c=okA α x
theorem F5_{α:Type}[Enc α][EncQ α](b:Bool)(l m:List α)(c d:Nat):mrgT b (.fr (Enc.es α) l.length c (encL l)) (.fr (Enc.es α) m.length d (encL m))=cond b (.fr (Enc.es α) l.length c (encL l)) (.fr (Enc.es α) m.length d (encL m)):=by
 have hs:g6_ (Enc.es α) l.length (Enc.es α) m.length=true:=by simp[g6_,Nat.beq_refl]
 have:mrgT b (.fr (Enc.es α) l.length c (encL l)) (.fr (Enc.es α) m.length d (encL m))= .fr (Enc.es α) (cond b l.length m.length) (cond b c d) fun i j=>mrgT b (encL l i j) (encL m i j):=by
  simp only[mrgT,hs,cond_true,b7_ (EncQ.es0 (α:=α)),cond_false]
 refine Eq.trans this ?_
 cases b with
 |true=>
  simp only[cond_true]
  congr 1
  funext i j
  exact EncQ.mrg true _ _ j
 |false=>
  simp only[cond_false]
  congr 1
  funext i j
  exact EncQ.mrg false _ _ j
def bolD(t:Td):Bool:=match t with| .sc (.bool b)=>b|_=>false
def v9_(t:Td):Bool:=match t with| .sc (.bool _)=>true|_=>false
theorem bI_{t:Td}(h:v9_ t=true):t= .sc (.bool (bolD t)):=by
 unfold v9_ at h
 split at h
 ·rfl
 ·cases h
def strD(t:Td):ByteArray:=match t with| .sc (.string b)=>b|_=>⟨#[]⟩
def ahE_(t:Td):Bool:=match t with| .sc (.string _)=>true|_=>false
theorem S1_{t:Td}(h:ahE_ t=true):t= .sc (.string (strD t)):=by
 unfold ahE_ at h
 split at h
 ·rfl
 ·cases h
def fltD(t:Td):Nat:=match t with| .sc (.float .f64 f)=>f|_=>0
def I2_(t:Td):Bool:=match t with| .sc (.float .f64 _)=>true|_=>false
theorem fI_{t:Td}(h:I2_ t=true):t= .sc (.float .f64 (fltD t)):=by
 unfold I2_ at h
 split at h
 ·rfl
 ·cases h
instance:EncQ Int where
 es0:=by decide
 mrg b x y j:=by cases b<;>rfl
 cong c x h:=by
  have h0:c 0= .sc (.int .i64 x):=h 0 (by show 0<1;omega)
  exact⟨by show(match c 0 with| .sc (.int .i64 a)=>a|_=>0)=_;rw[h0],by show(match c 0 with| .sc (.int .i64 _)=>true|_=>false)=_;rw[h0];rfl⟩
instance:EncQ Vl where
 es0:=by decide
 mrg b x y j:=match j with
  |0=>by cases b<;>rfl
  |1=>by cases b<;>rfl
  |j+2=>by cases b<;>rfl
 cong c x h:=by
  have h0:=h 0 (by show 0<3;omega)
  have h1:=h 1 (by show 1<3;omega)
  have h2:=h 2 (by show 2<3;omega)
  refine⟨Eq.trans ?_ (Enc.back x),?_⟩
  ·show vlD c=vlD (vlE x);unfold vlD;rw[h0,h1,h2];rfl
  ·show vlOk c=vlOk (vlE x);unfold vlOk;rw[h0,h1,h2];rfl
instance:EncQ U8 where
 es0:=by decide
 mrg b x y j:=by cases b<;>rfl
 cong c x h:=by
  have h0:c 0= .sc (.int .u8 x.v):=h 0 (by show 0<1;omega)
  exact⟨by show u8D c=x;unfold u8D;rw[h0],by show u8Ok c=u8Ok (u8E x);unfold u8Ok;rw[h0];rfl⟩
theorem oTa{α:Type}[Enc α]{l:List α}{c:Nat}(h:okT α (tdL l c)=true):l.all (okA α)=true:=by
 simp only[tdL,okT,Bool.or_eq_true,Bool.and_eq_true]at h
 rw[List.all_eq_true]
 intro x hx
 obtain⟨i,hi,rfl⟩:=List.getElem_of_mem hx
 rcases h with h|h
 ·have h1:=V5_ h.1.1.2 hi
  have h2:Enc.ok α (Enc.enc (l.getD i Enc.dflt))=true:=h1
  have h3:l.getD i Enc.dflt=l[i]:=by simp[List.getD,hi]
  rw[h3]at h2
  exact h2
 ·have:=Nat.eq_of_beq_eq_true h.1
  omega
structure St where
 s:ByteArray
def stE(x:St)(j:Nat):Td:=match j with
 |_=> .sc (.string x.s)
def stD(c:Nat→Td):St:=⟨strD (c 0)⟩
def stOk(c:Nat→Td):Bool:=ahE_ (c 0)
def aep_(c:Nat→Td):Prop:=ahE_ (c 0)=true
theorem aeo_{c:Nat→Td}(h:stOk c=true):aep_ c:=by
 exact h
theorem aon_{c:Nat→Td}(h:aep_ c)(w:World)(F:Nat→Prop)(j:Nat)(y:Value)(hj:j<1)(ht:TR w F (c j) y):TR w F (stE (stD c) j) y:=by
 have h0:=h
 match j,hj with
 |0,_=>rw[S1_ h0]at ht;exact ht
theorem aen_(a:St):stD (stE a)=a:=by
 rfl
instance encSt:Enc St where
 es:=1
 enc:=stE
 dec:=stD
 ok:=stOk
 dflt:=⟨⟨#[]⟩⟩
 good:=aep_
 okgood c h:=aeo_ h
 law c h w F j y hj ht:=aon_ h w F j y hj ht
 back a:=aen_ a
 mrg a b w F j y hj:=match j,hj with
  |0,_=>⟨fun h=>h,fun h=>h⟩
instance encQSt:EncQ St where
 es0:=by decide
 mrg b x y j:=match j with
  |_=>by cases b<;>rfl
 cong c x h:=by
  have h0:=h 0 (by show 0<1;omega)
  refine⟨Eq.trans ?_ (aen_ x),?_⟩
  ·show stD c=stD (stE x)
   unfold stD
   rw[h0]
   rfl
  ·show stOk c=stOk (stE x)
   unfold stOk
   rw[h0]
   rfl
structure Ms where
 k:Int
 id:Int
 er:Int
 n:Int
 sq:Int
 lo:Bool
 ev:Int
 bd:Vl
 ps:List St
 cps:Nat
 vs:List Vl
 cvs:Nat
def msE(x:Ms)(j:Nat):Td:=match j with
 |0=> .sc (.int .i64 x.k)
 |1=> .sc (.int .i64 x.id)
 |2=> .sc (.int .i64 x.er)
 |3=> .sc (.int .i64 x.n)
 |4=> .sc (.int .i64 x.sq)
 |5=> .sc (.bool x.lo)
 |6=> .sc (.int .i64 x.ev)
 |7=> .sc (.int .i64 x.bd.k)
 |8=> .sc (.int .i64 x.bd.i)
 |9=> .sc (.float .f64 x.bd.f)
 |10=> .fr (Enc.es St) x.ps.length x.cps (encL x.ps)
 |_=> .fr (Enc.es Vl) x.vs.length x.cvs (encL x.vs)
def msD(c:Nat→Td):Ms:=⟨intD (c 0),intD (c 1),intD (c 2),intD (c 3),intD (c 4),bolD (c 5),intD (c 6),⟨intD (c 7),intD (c 8),fltD (c 9)⟩,a3_ St (c 10),nilT (c 10),a3_ Vl (c 11),nilT (c 11)⟩
def msOk(c:Nat→Td):Bool:=c0_ (c 0)&&c0_ (c 1)&&c0_ (c 2)&&c0_ (c 3)&&c0_ (c 4)&&v9_ (c 5)&&c0_ (c 6)&&c0_ (c 7)&&c0_ (c 8)&&I2_ (c 9)&&okT St (c 10)&&okT Vl (c 11)
def afC_(c:Nat→Td):Prop:=c0_ (c 0)=true∧c0_ (c 1)=true∧c0_ (c 2)=true∧c0_ (c 3)=true∧c0_ (c 4)=true∧v9_ (c 5)=true∧c0_ (c 6)=true∧c0_ (c 7)=true∧c0_ (c 8)=true∧I2_ (c 9)=true∧p1_ St (c 10)∧p1_ Vl (c 11)
theorem afB_{c:Nat→Td}(h:msOk c=true):afC_ c:=by
 simp only[msOk,Bool.and_eq_true]at h
 obtain⟨⟨⟨⟨⟨⟨⟨⟨⟨⟨⟨h0,h1⟩,h2⟩,h3⟩,h4⟩,h5⟩,h6⟩,h7⟩,h8⟩,h9⟩,h10⟩,h11⟩:=h
 exact⟨h0,h1,h2,h3,h4,h5,h6,h7,h8,h9,h3_ h10,h3_ h11⟩
theorem aoJ_{c:Nat→Td}(h:afC_ c)(w:World)(F:Nat→Prop)(j:Nat)(y:Value)(hj:j<12)(ht:TR w F (c j) y):TR w F (msE (msD c) j) y:=by
 obtain⟨h0,h1,h2,h3,h4,h5,h6,h7,h8,h9,h10,h11⟩:=h
 match j,hj with
 |0,_=>rw[iI_ h0]at ht;exact ht
 |1,_=>rw[iI_ h1]at ht;exact ht
 |2,_=>rw[iI_ h2]at ht;exact ht
 |3,_=>rw[iI_ h3]at ht;exact ht
 |4,_=>rw[iI_ h4]at ht;exact ht
 |5,_=>rw[bI_ h5]at ht;exact ht
 |6,_=>rw[iI_ h6]at ht;exact ht
 |7,_=>rw[iI_ h7]at ht;exact ht
 |8,_=>rw[iI_ h8]at ht;exact ht
 |9,_=>rw[fI_ h9]at ht;exact ht
 |10,_=>exact g3_ (α:=St) h10 ht
 |11,_=>exact g3_ (α:=Vl) h11 ht
theorem afA_(a:Ms):msD (msE a)=a:=by
 obtain⟨k,id,er,n,sq,lo,ev,bd,ps,cps,vs,cvs⟩:=a
 show(⟨k,id,er,n,sq,lo,ev,bd,decL ps.length (encL ps),cps,decL vs.length (encL vs),cvs⟩:Ms)=_
 rw[b6_,b6_]
instance encMs:Enc Ms where
 es:=12
 enc:=msE
 dec:=msD
 ok:=msOk
 dflt:=⟨0,0,0,0,0,false,0,⟨0,0,0⟩,[],1,[],1⟩
 good:=afC_
 okgood c h:=afB_ h
 law c h w F j y hj ht:=aoJ_ h w F j y hj ht
 back a:=afA_ a
 mrg a b w F j y hj:=match j,hj with
  |0,_=>⟨fun h=>h,fun h=>h⟩
  |1,_=>⟨fun h=>h,fun h=>h⟩
  |2,_=>⟨fun h=>h,fun h=>h⟩
  |3,_=>⟨fun h=>h,fun h=>h⟩
  |4,_=>⟨fun h=>h,fun h=>h⟩
  |5,_=>⟨fun h=>h,fun h=>h⟩
  |6,_=>⟨fun h=>h,fun h=>h⟩
  |7,_=>⟨fun h=>h,fun h=>h⟩
  |8,_=>⟨fun h=>h,fun h=>h⟩
  |9,_=>⟨fun h=>h,fun h=>h⟩
  |10,_=>⟨d7_ (α:=St) (by decide),d0_ (α:=St) (by decide)⟩
  |11,_=>⟨d7_ (α:=Vl) (by decide),d0_ (α:=Vl) (by decide)⟩
instance encQMs:EncQ Ms where
 es0:=by decide
 mrg b x y j:=match j with
  |0=>by cases b<;>rfl
  |1=>by cases b<;>rfl
  |2=>by cases b<;>rfl
  |3=>by cases b<;>rfl
  |4=>by cases b<;>rfl
  |5=>by cases b<;>rfl
  |6=>by cases b<;>rfl
  |7=>by cases b<;>rfl
  |8=>by cases b<;>rfl
  |9=>by cases b<;>rfl
  |10=>F5_ b x.ps y.ps x.cps y.cps
  |j+11=>F5_ b x.vs y.vs x.cvs y.cvs
 cong c x h:=by
  have h0:=h 0 (by show 0<12;omega)
  have h1:=h 1 (by show 1<12;omega)
  have h2:=h 2 (by show 2<12;omega)
  have h3:=h 3 (by show 3<12;omega)
  have h4:=h 4 (by show 4<12;omega)
  have h5:=h 5 (by show 5<12;omega)
  have h6:=h 6 (by show 6<12;omega)
  have h7:=h 7 (by show 7<12;omega)
  have h8:=h 8 (by show 8<12;omega)
  have h9:=h 9 (by show 9<12;omega)
  have h10:=h 10 (by show 10<12;omega)
  have h11:=h 11 (by show 11<12;omega)
  refine⟨Eq.trans ?_ (afA_ x),?_⟩
  ·show msD c=msD (msE x)
   unfold msD
   rw[h0,h1,h2,h3,h4,h5,h6,h7,h8,h9,h10,h11]
   rfl
  ·show msOk c=msOk (msE x)
   unfold msOk
   rw[h0,h1,h2,h3,h4,h5,h6,h7,h8,h9,h10,h11]
   rfl
theorem V7_{x:Ms}(h0:x.ps.all (okA St)=true)(l0:x.ps.length≤1000000)(c0:x.cps≤1)(h1:x.vs.all (okA Vl)=true)(l1:x.vs.length≤1000000)(c1:x.cvs≤1):okA Ms x=true:=by
 show(true&&true&&true&&true&&true&&true&&true&&true&&true&&true&&okT St (tdL x.ps x.cps)&&okT Vl (tdL x.vs x.cvs))=true
 rw[b9_ h0 l0 c0,b9_ h1 l1 c1];rfl
theorem x6_{x:Ms}(h:okA Ms x=true):x.ps.all (okA St)=true∧x.ps.length≤1000000∧x.cps≤1∧x.vs.all (okA Vl)=true∧x.vs.length≤1000000∧x.cvs≤1:=by
 have h:(true&&true&&true&&true&&true&&true&&true&&true&&true&&true&&okT St (tdL x.ps x.cps)&&okT Vl (tdL x.vs x.cvs))=true:=h
 simp only[Bool.and_eq_true]at h
 obtain⟨⟨⟨⟨⟨⟨⟨⟨⟨⟨⟨h0,h1⟩,h2⟩,h3⟩,h4⟩,h5⟩,h6⟩,h7⟩,h8⟩,h9⟩,h10⟩,h11⟩:=h
 have k0:=b4_ h10
 have m0:=oTa h10
 rw[lT_,m4_]at k0
 have k1:=b4_ h11
 have m1:=oTa h11
 rw[lT_,m4_]at k1
 exact⟨m0,k0.1,k0.2,m1,k1.1,k1.2⟩
structure Im where
 sq:Int
 v:Vl
 lo:Bool
def imE(x:Im)(j:Nat):Td:=match j with
 |0=> .sc (.int .i64 x.sq)
 |1=> .sc (.int .i64 x.v.k)
 |2=> .sc (.int .i64 x.v.i)
 |3=> .sc (.float .f64 x.v.f)
 |_=> .sc (.bool x.lo)
def imD(c:Nat→Td):Im:=⟨intD (c 0),⟨intD (c 1),intD (c 2),fltD (c 3)⟩,bolD (c 4)⟩
def imOk(c:Nat→Td):Bool:=c0_ (c 0)&&c0_ (c 1)&&c0_ (c 2)&&I2_ (c 3)&&v9_ (c 4)
def afQ_(c:Nat→Td):Prop:=c0_ (c 0)=true∧c0_ (c 1)=true∧c0_ (c 2)=true∧I2_ (c 3)=true∧v9_ (c 4)=true
theorem afP_{c:Nat→Td}(h:imOk c=true):afQ_ c:=by
 simp only[imOk,Bool.and_eq_true]at h
 obtain⟨⟨⟨⟨h0,h1⟩,h2⟩,h3⟩,h4⟩:=h
 exact⟨h0,h1,h2,h3,h4⟩
theorem aoO_{c:Nat→Td}(h:afQ_ c)(w:World)(F:Nat→Prop)(j:Nat)(y:Value)(hj:j<5)(ht:TR w F (c j) y):TR w F (imE (imD c) j) y:=by
 obtain⟨h0,h1,h2,h3,h4⟩:=h
 match j,hj with
 |0,_=>rw[iI_ h0]at ht;exact ht
 |1,_=>rw[iI_ h1]at ht;exact ht
 |2,_=>rw[iI_ h2]at ht;exact ht
 |3,_=>rw[fI_ h3]at ht;exact ht
 |4,_=>rw[bI_ h4]at ht;exact ht
theorem afO_(a:Im):imD (imE a)=a:=by
 rfl
instance encIm:Enc Im where
 es:=5
 enc:=imE
 dec:=imD
 ok:=imOk
 dflt:=⟨0,⟨0,0,0⟩,false⟩
 good:=afQ_
 okgood c h:=afP_ h
 law c h w F j y hj ht:=aoO_ h w F j y hj ht
 back a:=afO_ a
 mrg a b w F j y hj:=match j,hj with
  |0,_=>⟨fun h=>h,fun h=>h⟩
  |1,_=>⟨fun h=>h,fun h=>h⟩
  |2,_=>⟨fun h=>h,fun h=>h⟩
  |3,_=>⟨fun h=>h,fun h=>h⟩
  |4,_=>⟨fun h=>h,fun h=>h⟩
instance encQIm:EncQ Im where
 es0:=by decide
 mrg b x y j:=match j with
  |0=>by cases b<;>rfl
  |1=>by cases b<;>rfl
  |2=>by cases b<;>rfl
  |3=>by cases b<;>rfl
  |j+4=>by cases b<;>rfl
 cong c x h:=by
  have h0:=h 0 (by show 0<5;omega)
  have h1:=h 1 (by show 1<5;omega)
  have h2:=h 2 (by show 2<5;omega)
  have h3:=h 3 (by show 3<5;omega)
  have h4:=h 4 (by show 4<5;omega)
  refine⟨Eq.trans ?_ (afO_ x),?_⟩
  ·show imD c=imD (imE x)
   unfold imD
   rw[h0,h1,h2,h3,h4]
   rfl
  ·show imOk c=imOk (imE x)
   unfold imOk
   rw[h0,h1,h2,h3,h4]
   rfl
structure Wt where
 nu:Int
 ad:Int
 ev:Int
 du:Int
 bd:Vl
 mo:Int
 ha:Bool
 lo:Bool
 la:Vl
 sq:Int
 qu:List Im
 cqu:Nat
def wtE(x:Wt)(j:Nat):Td:=match j with
 |0=> .sc (.int .i64 x.nu)
 |1=> .sc (.int .i64 x.ad)
 |2=> .sc (.int .i64 x.ev)
 |3=> .sc (.int .i64 x.du)
 |4=> .sc (.int .i64 x.bd.k)
 |5=> .sc (.int .i64 x.bd.i)
 |6=> .sc (.float .f64 x.bd.f)
 |7=> .sc (.int .i64 x.mo)
 |8=> .sc (.bool x.ha)
 |9=> .sc (.bool x.lo)
 |10=> .sc (.int .i64 x.la.k)
 |11=> .sc (.int .i64 x.la.i)
 |12=> .sc (.float .f64 x.la.f)
 |13=> .sc (.int .i64 x.sq)
 |_=> .fr (Enc.es Im) x.qu.length x.cqu (encL x.qu)
def wtD(c:Nat→Td):Wt:=⟨intD (c 0),intD (c 1),intD (c 2),intD (c 3),⟨intD (c 4),intD (c 5),fltD (c 6)⟩,intD (c 7),bolD (c 8),bolD (c 9),⟨intD (c 10),intD (c 11),fltD (c 12)⟩,intD (c 13),a3_ Im (c 14),nilT (c 14)⟩
def wtOk(c:Nat→Td):Bool:=c0_ (c 0)&&c0_ (c 1)&&c0_ (c 2)&&c0_ (c 3)&&c0_ (c 4)&&c0_ (c 5)&&I2_ (c 6)&&c0_ (c 7)&&v9_ (c 8)&&v9_ (c 9)&&c0_ (c 10)&&c0_ (c 11)&&I2_ (c 12)&&c0_ (c 13)&&okT Im (c 14)
def adq_(c:Nat→Td):Prop:=c0_ (c 0)=true∧c0_ (c 1)=true∧c0_ (c 2)=true∧c0_ (c 3)=true∧c0_ (c 4)=true∧c0_ (c 5)=true∧I2_ (c 6)=true∧c0_ (c 7)=true∧v9_ (c 8)=true∧v9_ (c 9)=true∧c0_ (c 10)=true∧c0_ (c 11)=true∧I2_ (c 12)=true∧c0_ (c 13)=true∧p1_ Im (c 14)
theorem adp_{c:Nat→Td}(h:wtOk c=true):adq_ c:=by
 simp only[wtOk,Bool.and_eq_true]at h
 obtain⟨⟨⟨⟨⟨⟨⟨⟨⟨⟨⟨⟨⟨⟨h0,h1⟩,h2⟩,h3⟩,h4⟩,h5⟩,h6⟩,h7⟩,h8⟩,h9⟩,h10⟩,h11⟩,h12⟩,h13⟩,h14⟩:=h
 exact⟨h0,h1,h2,h3,h4,h5,h6,h7,h8,h9,h10,h11,h12,h13,h3_ h14⟩
theorem anr_{c:Nat→Td}(h:adq_ c)(w:World)(F:Nat→Prop)(j:Nat)(y:Value)(hj:j<15)(ht:TR w F (c j) y):TR w F (wtE (wtD c) j) y:=by
 obtain⟨h0,h1,h2,h3,h4,h5,h6,h7,h8,h9,h10,h11,h12,h13,h14⟩:=h
 match j,hj with
 |0,_=>rw[iI_ h0]at ht;exact ht
 |1,_=>rw[iI_ h1]at ht;exact ht
 |2,_=>rw[iI_ h2]at ht;exact ht
 |3,_=>rw[iI_ h3]at ht;exact ht
 |4,_=>rw[iI_ h4]at ht;exact ht
 |5,_=>rw[iI_ h5]at ht;exact ht
 |6,_=>rw[fI_ h6]at ht;exact ht
 |7,_=>rw[iI_ h7]at ht;exact ht
 |8,_=>rw[bI_ h8]at ht;exact ht
 |9,_=>rw[bI_ h9]at ht;exact ht
 |10,_=>rw[iI_ h10]at ht;exact ht
 |11,_=>rw[iI_ h11]at ht;exact ht
 |12,_=>rw[fI_ h12]at ht;exact ht
 |13,_=>rw[iI_ h13]at ht;exact ht
 |14,_=>exact g3_ (α:=Im) h14 ht
theorem ado_(a:Wt):wtD (wtE a)=a:=by
 obtain⟨nu,ad,ev,du,bd,mo,ha,lo,la,sq,qu,cqu⟩:=a
 show(⟨nu,ad,ev,du,bd,mo,ha,lo,la,sq,decL qu.length (encL qu),cqu⟩:Wt)=_
 rw[b6_]
instance encWt:Enc Wt where
 es:=15
 enc:=wtE
 dec:=wtD
 ok:=wtOk
 dflt:=⟨0,0,0,0,⟨0,0,0⟩,0,false,false,⟨0,0,0⟩,0,[],1⟩
 good:=adq_
 okgood c h:=adp_ h
 law c h w F j y hj ht:=anr_ h w F j y hj ht
 back a:=ado_ a
 mrg a b w F j y hj:=match j,hj with
  |0,_=>⟨fun h=>h,fun h=>h⟩
  |1,_=>⟨fun h=>h,fun h=>h⟩
  |2,_=>⟨fun h=>h,fun h=>h⟩
  |3,_=>⟨fun h=>h,fun h=>h⟩
  |4,_=>⟨fun h=>h,fun h=>h⟩
  |5,_=>⟨fun h=>h,fun h=>h⟩
  |6,_=>⟨fun h=>h,fun h=>h⟩
  |7,_=>⟨fun h=>h,fun h=>h⟩
  |8,_=>⟨fun h=>h,fun h=>h⟩
  |9,_=>⟨fun h=>h,fun h=>h⟩
  |10,_=>⟨fun h=>h,fun h=>h⟩
  |11,_=>⟨fun h=>h,fun h=>h⟩
  |12,_=>⟨fun h=>h,fun h=>h⟩
  |13,_=>⟨fun h=>h,fun h=>h⟩
  |14,_=>⟨d7_ (α:=Im) (by decide),d0_ (α:=Im) (by decide)⟩
instance encQWt:EncQ Wt where
 es0:=by decide
 mrg b x y j:=match j with
  |0=>by cases b<;>rfl
  |1=>by cases b<;>rfl
  |2=>by cases b<;>rfl
  |3=>by cases b<;>rfl
  |4=>by cases b<;>rfl
  |5=>by cases b<;>rfl
  |6=>by cases b<;>rfl
  |7=>by cases b<;>rfl
  |8=>by cases b<;>rfl
  |9=>by cases b<;>rfl
  |10=>by cases b<;>rfl
  |11=>by cases b<;>rfl
  |12=>by cases b<;>rfl
  |13=>by cases b<;>rfl
  |j+14=>F5_ b x.qu y.qu x.cqu y.cqu
 cong c x h:=by
  have h0:=h 0 (by show 0<15;omega)
  have h1:=h 1 (by show 1<15;omega)
  have h2:=h 2 (by show 2<15;omega)
  have h3:=h 3 (by show 3<15;omega)
  have h4:=h 4 (by show 4<15;omega)
  have h5:=h 5 (by show 5<15;omega)
  have h6:=h 6 (by show 6<15;omega)
  have h7:=h 7 (by show 7<15;omega)
  have h8:=h 8 (by show 8<15;omega)
  have h9:=h 9 (by show 9<15;omega)
  have h10:=h 10 (by show 10<15;omega)
  have h11:=h 11 (by show 11<15;omega)
  have h12:=h 12 (by show 12<15;omega)
  have h13:=h 13 (by show 13<15;omega)
  have h14:=h 14 (by show 14<15;omega)
  refine⟨Eq.trans ?_ (ado_ x),?_⟩
  ·show wtD c=wtD (wtE x)
   unfold wtD
   rw[h0,h1,h2,h3,h4,h5,h6,h7,h8,h9,h10,h11,h12,h13,h14]
   rfl
  ·show wtOk c=wtOk (wtE x)
   unfold wtOk
   rw[h0,h1,h2,h3,h4,h5,h6,h7,h8,h9,h10,h11,h12,h13,h14]
   rfl
theorem akf_{x:Wt}(h0:x.qu.all (okA Im)=true)(l0:x.qu.length≤1000000)(c0:x.cqu≤1):okA Wt x=true:=by
 show(true&&true&&true&&true&&true&&true&&true&&true&&true&&true&&true&&true&&true&&true&&okT Im (tdL x.qu x.cqu))=true
 rw[b9_ h0 l0 c0];rfl
theorem J8_{x:Wt}(h:okA Wt x=true):x.qu.all (okA Im)=true∧x.qu.length≤1000000∧x.cqu≤1:=by
 have h:(true&&true&&true&&true&&true&&true&&true&&true&&true&&true&&true&&true&&true&&true&&okT Im (tdL x.qu x.cqu))=true:=h
 simp only[Bool.and_eq_true]at h
 obtain⟨⟨⟨⟨⟨⟨⟨⟨⟨⟨⟨⟨⟨⟨h0,h1⟩,h2⟩,h3⟩,h4⟩,h5⟩,h6⟩,h7⟩,h8⟩,h9⟩,h10⟩,h11⟩,h12⟩,h13⟩,h14⟩:=h
 have k0:=b4_ h14
 have m0:=oTa h14
 rw[lT_,m4_]at k0
 exact⟨m0,k0.1,k0.2⟩
structure Ss where
 on:Bool
 se:Int
 fb:List U8
 cfb:Nat
 ba:Bool
 ins:List Ms
 cins:Nat
 out:List Ms
 cout:Nat
 sub:List Wt
 csub:Nat
 num:Int
def ssE(x:Ss)(j:Nat):Td:=match j with
 |0=> .sc (.bool x.on)
 |1=> .sc (.int .i64 x.se)
 |2=> .fr (Enc.es U8) x.fb.length x.cfb (encL x.fb)
 |3=> .sc (.bool x.ba)
 |4=> .fr (Enc.es Ms) x.ins.length x.cins (encL x.ins)
 |5=> .fr (Enc.es Ms) x.out.length x.cout (encL x.out)
 |6=> .fr (Enc.es Wt) x.sub.length x.csub (encL x.sub)
 |_=> .sc (.int .i64 x.num)
def ssD(c:Nat→Td):Ss:=⟨bolD (c 0),intD (c 1),a3_ U8 (c 2),nilT (c 2),bolD (c 3),a3_ Ms (c 4),nilT (c 4),a3_ Ms (c 5),nilT (c 5),a3_ Wt (c 6),nilT (c 6),intD (c 7)⟩
def ssOk(c:Nat→Td):Bool:=v9_ (c 0)&&c0_ (c 1)&&okT U8 (c 2)&&v9_ (c 3)&&okT Ms (c 4)&&okT Ms (c 5)&&okT Wt (c 6)&&c0_ (c 7)
def aes_(c:Nat→Td):Prop:=v9_ (c 0)=true∧c0_ (c 1)=true∧p1_ U8 (c 2)∧v9_ (c 3)=true∧p1_ Ms (c 4)∧p1_ Ms (c 5)∧p1_ Wt (c 6)∧c0_ (c 7)=true
theorem aer_{c:Nat→Td}(h:ssOk c=true):aes_ c:=by
 simp only[ssOk,Bool.and_eq_true]at h
 obtain⟨⟨⟨⟨⟨⟨⟨h0,h1⟩,h2⟩,h3⟩,h4⟩,h5⟩,h6⟩,h7⟩:=h
 exact⟨h0,h1,h3_ h2,h3,h3_ h4,h3_ h5,h3_ h6,h7⟩
theorem aoo_{c:Nat→Td}(h:aes_ c)(w:World)(F:Nat→Prop)(j:Nat)(y:Value)(hj:j<8)(ht:TR w F (c j) y):TR w F (ssE (ssD c) j) y:=by
 obtain⟨h0,h1,h2,h3,h4,h5,h6,h7⟩:=h
 match j,hj with
 |0,_=>rw[bI_ h0]at ht;exact ht
 |1,_=>rw[iI_ h1]at ht;exact ht
 |2,_=>exact g3_ (α:=U8) h2 ht
 |3,_=>rw[bI_ h3]at ht;exact ht
 |4,_=>exact g3_ (α:=Ms) h4 ht
 |5,_=>exact g3_ (α:=Ms) h5 ht
 |6,_=>exact g3_ (α:=Wt) h6 ht
 |7,_=>rw[iI_ h7]at ht;exact ht
theorem aeq_(a:Ss):ssD (ssE a)=a:=by
 obtain⟨on,se,fb,cfb,ba,ins,cins,out,cout,sub,csub,num⟩:=a
 show(⟨on,se,decL fb.length (encL fb),cfb,ba,decL ins.length (encL ins),cins,decL out.length (encL out),cout,decL sub.length (encL sub),csub,num⟩:Ss)=_
 rw[b6_,b6_,b6_,b6_]
instance encSs:Enc Ss where
 es:=8
 enc:=ssE
 dec:=ssD
 ok:=ssOk
 dflt:=⟨false,0,[],1,false,[],1,[],1,[],1,0⟩
 good:=aes_
 okgood c h:=aer_ h
 law c h w F j y hj ht:=aoo_ h w F j y hj ht
 back a:=aeq_ a
 mrg a b w F j y hj:=match j,hj with
  |0,_=>⟨fun h=>h,fun h=>h⟩
  |1,_=>⟨fun h=>h,fun h=>h⟩
  |2,_=>⟨d7_ (α:=U8) (by decide),d0_ (α:=U8) (by decide)⟩
  |3,_=>⟨fun h=>h,fun h=>h⟩
  |4,_=>⟨d7_ (α:=Ms) (by decide),d0_ (α:=Ms) (by decide)⟩
  |5,_=>⟨d7_ (α:=Ms) (by decide),d0_ (α:=Ms) (by decide)⟩
  |6,_=>⟨d7_ (α:=Wt) (by decide),d0_ (α:=Wt) (by decide)⟩
  |7,_=>⟨fun h=>h,fun h=>h⟩
instance encQSs:EncQ Ss where
 es0:=by decide
 mrg b x y j:=match j with
  |0=>by cases b<;>rfl
  |1=>by cases b<;>rfl
  |2=>F5_ b x.fb y.fb x.cfb y.cfb
  |3=>by cases b<;>rfl
  |4=>F5_ b x.ins y.ins x.cins y.cins
  |5=>F5_ b x.out y.out x.cout y.cout
  |6=>F5_ b x.sub y.sub x.csub y.csub
  |j+7=>by cases b<;>rfl
 cong c x h:=by
  have h0:=h 0 (by show 0<8;omega)
  have h1:=h 1 (by show 1<8;omega)
  have h2:=h 2 (by show 2<8;omega)
  have h3:=h 3 (by show 3<8;omega)
  have h4:=h 4 (by show 4<8;omega)
  have h5:=h 5 (by show 5<8;omega)
  have h6:=h 6 (by show 6<8;omega)
  have h7:=h 7 (by show 7<8;omega)
  refine⟨Eq.trans ?_ (aeq_ x),?_⟩
  ·show ssD c=ssD (ssE x)
   unfold ssD
   rw[h0,h1,h2,h3,h4,h5,h6,h7]
   rfl
  ·show ssOk c=ssOk (ssE x)
   unfold ssOk
   rw[h0,h1,h2,h3,h4,h5,h6,h7]
   rfl
theorem akg_{x:Ss}(h0:x.fb.all (okA U8)=true)(l0:x.fb.length≤1000000)(c0:x.cfb≤1)(h1:x.ins.all (okA Ms)=true)(l1:x.ins.length≤1000000)(c1:x.cins≤1)(h2:x.out.all (okA Ms)=true)(l2:x.out.length≤1000000)(c2:x.cout≤1)(h3:x.sub.all (okA Wt)=true)(l3:x.sub.length≤1000000)(c3:x.csub≤1):okA Ss x=true:=by
 show(true&&true&&okT U8 (tdL x.fb x.cfb)&&true&&okT Ms (tdL x.ins x.cins)&&okT Ms (tdL x.out x.cout)&&okT Wt (tdL x.sub x.csub)&&true)=true
 rw[b9_ h0 l0 c0,b9_ h1 l1 c1,b9_ h2 l2 c2,b9_ h3 l3 c3];rfl
theorem r1_{x:Ss}(h:okA Ss x=true):x.fb.all (okA U8)=true∧x.fb.length≤1000000∧x.cfb≤1∧x.ins.all (okA Ms)=true∧x.ins.length≤1000000∧x.cins≤1∧x.out.all (okA Ms)=true∧x.out.length≤1000000∧x.cout≤1∧x.sub.all (okA Wt)=true∧x.sub.length≤1000000∧x.csub≤1:=by
 have h:(true&&true&&okT U8 (tdL x.fb x.cfb)&&true&&okT Ms (tdL x.ins x.cins)&&okT Ms (tdL x.out x.cout)&&okT Wt (tdL x.sub x.csub)&&true)=true:=h
 simp only[Bool.and_eq_true]at h
 obtain⟨⟨⟨⟨⟨⟨⟨h0,h1⟩,h2⟩,h3⟩,h4⟩,h5⟩,h6⟩,h7⟩:=h
 have k0:=b4_ h2
 have m0:=oTa h2
 rw[lT_,m4_]at k0
 have k1:=b4_ h4
 have m1:=oTa h4
 rw[lT_,m4_]at k1
 have k2:=b4_ h5
 have m2:=oTa h5
 rw[lT_,m4_]at k2
 have k3:=b4_ h6
 have m3:=oTa h6
 rw[lT_,m4_]at k3
 exact⟨m0,k0.1,k0.2,m1,k1.1,k1.2,m2,k2.1,k2.2,m3,k3.1,k3.2⟩
theorem ajf_{C:Told}(hC:a9_ Tryz.prog C):a9_ Tryz.prog (C.also 82 bitsSpec):=by
 refine Told.also_ok hC ?_
 intro args v hv
 unfold bitsSpec at hv
 split at hv
 ·rename_i a
  cases hv
  refine⟨rfl,rfl,fun w args' ha=> ?_⟩
  refine z3_ (fuel:=100) (n:=20) follows (o6_ _) ?_ w args' ha
  rw[abf_];exact H1_ a
 ·cases hv
theorem ahK_{C:Told}(hC:a9_ Tryz.prog C):a9_ Tryz.prog (C.also 59 sameSpec):=by
 refine Told.also_ok hC ?_
 intro args v hv
 unfold sameSpec at hv
 split at hv
 ·rename_i a b
  cases hv
  refine⟨rfl,rfl,fun w args' ha=> ?_⟩
  refine z3_ (fuel:=100) (n:=20) follows l8_ ?_ w args' ha
  rw[abe_,aez_];rfl
 ·cases hv
theorem adI_(a:Nat)(K:AE→ASt→Prop):funK Tryz.prog noTold 100 20 102 [.float .f64 a] st0 K=
  br (Ieee.double.order a a !=some .eq) (K (.returned (.int .u64 (Int.ofNat 9221120237041090561))) st0) (need (!nanB .f64 a) (K (.returned (.int .u64 (Int.ofNat a))) st0)):=by kernel_rfl
theorem aeS_{C:Told}(hC:a9_ Tryz.prog C):a9_ Tryz.prog (C.also 102 bitsSpec):=by
 refine Told.also_ok hC ?_
 intro args v hv
 unfold bitsSpec at hv
 split at hv
 ·rename_i a
  cases hv
  refine⟨rfl,rfl,fun w args' ha=> ?_⟩
  refine z3_ (fuel:=100) (n:=20) follows (o6_ _) ?_ w args' ha
  rw[adI_];exact H1_ a
 ·cases hv
theorem aaM_:c3_ Tryz.prog 90 (okC 3) (ansC 3):=l3_ follows (fun n c f β K=>by kernel_rfl) (fun es' f β K=>by kernel_rfl)
theorem aaO_:c3_ Tryz.prog 89 (okC 1) (ansC 1):=l3_ follows (fun n c f β K=>by kernel_rfl) (fun es' f β K=>by kernel_rfl)
theorem aaL_:c3_ Tryz.prog 49 (okC 15) (ansC 15):=l3_ follows (fun n c f β K=>by kernel_rfl) (fun es' f β K=>by kernel_rfl)
theorem aaP_:c3_ Tryz.prog 50 (okC 5) (ansC 5):=l3_ follows (fun n c f β K=>by kernel_rfl) (fun es' f β K=>by kernel_rfl)
def ajN_:Told:=Z5_.tree 38 okFd apb_
theorem aec_:a9_ Tryz.prog ajN_:=Told.tree_ok M1_ amJ_
def ajM_:Told:=((ajN_.also 82 bitsSpec).also 59 sameSpec).also 102 bitsSpec
theorem aeb_:a9_ Tryz.prog ajM_:=aeS_ (ahK_ (ajf_ aec_))
def ajL_:Told:=ajM_.tree 36 (ok2 Vl Vl fun _ _ _ _=>true) (ans2 Vl Vl fun l _ m _=>bAns (e8_ l m))
theorem aea_:a9_ Tryz.prog ajL_:=Told.tree_ok aeb_ aey_
def ajK_:Told:=(ajL_.tree 90 (okC 3) (ansC 3)).tree 89 (okC 1) (ansC 1)
theorem adZ_:a9_ Tryz.prog ajK_:=Told.tree_ok (Told.tree_ok aea_ aaM_) aaO_
def ahw_:Told:=(ajK_.tree 49 (okC 15) (ansC 15)).tree 50 (okC 5) (ansC 5)
theorem abl_:a9_ Tryz.prog ahw_:=Told.tree_ok (Told.tree_ok adZ_ aaL_) aaP_
theorem apn_(k v:Int)(K:AE→Prop):funK Tryz.prog ahw_ 100 70 67 [.int .i64 k,.int .i64 v] st0 (fun r _=>K r)=
 (br (k==(1:Int)) (br (v !=(0:Int)) (K (.returned (.int .i64 (1:Int)))) (K (.returned (.int .i64 (0:Int))))) (br (k==(2:Int)) (br (decide (Int.tmod v (65536:Int)<(0:Int))) (br (decide (IntKind.wrap .i64 (Int.tmod v (65536:Int)+(65536:Int))≥(32768:Int))) (K (.returned (.int .i64 (IntKind.wrap .i64 (IntKind.wrap .i64 (Int.tmod v (65536:Int)+(65536:Int))-(65536:Int)))))) (K (.returned (.int .i64 (IntKind.wrap .i64 (Int.tmod v (65536:Int)+(65536:Int))))))) (br (decide (Int.tmod v (65536:Int)≥(32768:Int))) (K (.returned (.int .i64 (IntKind.wrap .i64 (Int.tmod v (65536:Int)-(65536:Int)))))) (K (.returned (.int .i64 (Int.tmod v (65536:Int))))))) (br (k==(3:Int)) (br (decide (Int.tmod v (4294967296:Int)<(0:Int))) (br (decide (IntKind.wrap .i64 (Int.tmod v (4294967296:Int)+(4294967296:Int))≥(2147483648:Int))) (K (.returned (.int .i64 (IntKind.wrap .i64 (IntKind.wrap .i64 (Int.tmod v (4294967296:Int)+(4294967296:Int))-(4294967296:Int)))))) (K (.returned (.int .i64 (IntKind.wrap .i64 (Int.tmod v (4294967296:Int)+(4294967296:Int))))))) (br (decide (Int.tmod v (4294967296:Int)≥(2147483648:Int))) (K (.returned (.int .i64 (IntKind.wrap .i64 (Int.tmod v (4294967296:Int)-(4294967296:Int)))))) (K (.returned (.int .i64 (Int.tmod v (4294967296:Int))))))) (br (k==(4:Int)) (K (.returned (.int .i64 v))) (K (.returned (.int .i64 (0:Int)))))))):=by kernel_rfl
def wrF(k v:Int):Int:=if k=1 then(if v=0 then 0 else 1)else if k=2 then IntKind.wrap .i16 v else if k=3 then IntKind.wrap .i32 v else if k=4 then v else 0
theorem wr16(x:Int):IntKind.wrap .i16 x=if x%65536<32768 then x%65536 else x%65536-65536:=by
 unfold IntKind.wrap
 simp[IntKind.signed,IntKind.bits]
 split<;>split<;>omega
theorem wr32(x:Int):IntKind.wrap .i32 x=if x%4294967296<2147483648 then x%4294967296 else x%4294967296-4294967296:=by
 unfold IntKind.wrap
 simp[IntKind.signed,IntKind.bits]
 split<;>split<;>omega
theorem aoi_(v:Int)(n:Int)(hn:0<n):Int.tmod v n=if 0≤v then v%n else-((-v)%n):=by
 by_cases h:0≤v
 ·rw[if_pos h];exact Int.tmod_eq_emod_of_nonneg h
 ·rw[if_neg h]
  have:Int.tmod (-(-v)) n= -(Int.tmod (-v) n):=Int.neg_tmod _ _
  rw[Int.neg_neg]at this
  rw[this,Int.tmod_eq_emod_of_nonneg (by omega)]
theorem aky_(k v:Int):funK Tryz.prog ahw_ 100 70 67 [.int .i64 k,.int .i64 v] st0 (fun r _=>r= .returned (.int .i64 (wrF k v))):=by
 rw[apn_ k v fun r=>r= .returned (.int .i64 (wrF k v))]
 have t1:=aoi_ v 65536 (by omega)
 have t2:=aoi_ v 4294967296 (by omega)
 have e1:=wr16 v
 have e2:=wr32 v
 have hw: ∀x:Int,-9223372036854775808≤x→x<9223372036854775808→IntKind.wrap .i64 x=x:=fun x h1 h2=>w64 h1 h2
 generalize hA:Int.tmod v 65536=A at*
 generalize hB:Int.tmod v 4294967296=B at*
 have a1: -65536<A∧A<65536:=by split at t1<;>omega
 have b1: -4294967296<B∧B<4294967296:=by split at t2<;>omega
 rw[hw (A+65536) (by omega) (by omega),hw (A-65536) (by omega) (by omega),hw (A+65536-65536) (by omega) (by omega),hw (B+4294967296) (by omega) (by omega),hw (B-4294967296) (by omega) (by omega),hw (B+4294967296-4294967296) (by omega) (by omega)]
 unfold wrF
 rw[e1,e2]
 repeat' (with_reducible refine a0_ (fun _=> ?_) (fun _=> ?_))
 all_goals refine congrArg (fun x=>AE.returned (.int .i64 x)) ?_
 all_goals simp only[beq_iff_eq,beq_eq_false_iff_ne,bne_iff_ne,bne_eq_false_iff_eq,decide_eq_true_eq,decide_eq_false_iff_not,ne_eq,Decidable.not_not]at*
 all_goals (split at t1<;>split at t2<;>(repeat' split)<;>first|rfl|omega)
def wrSpec:List Value→Option Value
 |[.int .i64 k,.int .i64 v]=>some (.int .i64 (wrF k v))
 |_=>none
def R8_:Told:=ahw_.also 67 wrSpec
theorem R7_:a9_ Tryz.prog R8_:=by
 refine Told.also_ok abl_ ?_
 intro args v hv
 unfold wrSpec at hv
 split at hv
 ·rename_i k v
  cases hv
  exact⟨rfl,rfl,fun w args' ha=>z3_ (fuel:=100) (n:=70) follows abl_ (aky_ k v) w args' ha⟩
 ·cases hv
def viP(l:List U8)(c:Nat)(n:Int):List (Option AObj):=[some (.cells [.slice (some ⟨1,0,some 0⟩) l.length c,.int .i64 n] true 0),some (rowO .look l)]
def numF(l:List U8)(n m:Int):Int×Int:=cond (decide (n≥Int.ofNat l.length)) (0,n) (Int.tmod (l.getD n.toNat Enc.dflt).v m,n+1)
theorem anV_(l:List U8)(c:Nat)(n m:Int)(β:Bs)(K:AE→List (Option AObj)→Prop):lawE Tryz.prog R8_ 100 20 β (fun _=>0) (cnOf 2 fun _=>[]) (fun _ _=>False) 21 [.pointer (some ⟨0,0,none⟩),.int .i64 m] (mkS (viP l c n)) (outK K)=
 (fun(z1:Nat) (z2:Int)=>((fun(z0:Int) (z3:AObj)=>((fun(z4:Nat)=>(br (decide (n≥Int.ofNat z1)) (K (.returned (.int .i64 (0:Int))) [some (.cells [.slice (some ⟨1,0,some 0⟩) z1 c,.int .i64 n] true 0),some z3]) (need (decide ((0:Int)≤IntKind.wrap .i64 z2)) (need (Nat.blt (Int.toNat z0) z1) (need (Nat.ble 0 z4&&Nat.blt z4 z1) (need (true&& !decide (m=(0:Int))) (K (.returned (.int .i64 (Int.tmod (IntKind.wrap .i64 (U8.v (List.getD l z4 Enc.dflt))) m))) [some (.cells [.slice (some ⟨1,0,some 0⟩) z1 c,.int .i64 (IntKind.wrap .i64 (n+(1:Int)))] true 0),some z3]))))))) (0+Int.toNat z0))) (IntKind.wrap .i64 z2) (.row .look 1 0 z1 (encL l)))) l.length (IntKind.wrap .i64 (n+(1:Int))-(1:Int)):=by kernel_rfl
structure PkOk (l:List U8) (n:Int):Prop where
 all:l.all (okA U8)=true
 len:l.length≤1000000
 nn:0≤n
theorem alR_(a:U8)(h:okA U8 a=true):0≤a.v∧a.v<256:=by
 have h:(decide (0≤a.v)&&decide (a.v<256))=true:=h
 simpa using h
theorem w3_{l:List U8}(h:l.all (okA U8)=true){i:Nat}(hi:i<l.length):0≤(l.getD i Enc.dflt).v∧(l.getD i Enc.dflt).v<256:=by
 rw[List.all_eq_true]at h
 have:l.getD i Enc.dflt=l[i]:=by simp[List.getD,hi]
 rw[this]
 exact alR_ _ (h _ (List.getElem_mem hi))
def pkO(k c:Nat)(n:Int):AObj:= .cells [.slice (some ⟨1,0,some 0⟩) k c,.int .i64 n] true 0
abbrev PkD:Type:=List Value→Option (List U8→Int→Bool×AE×Int)
def spPk(dec:PkD)(args:List Value)(objs:List (Option AObj)):Option SpT:=match args,objs with
 | .pointer (some ⟨0,0,none⟩)::xs,[some (.cells [.slice (some ⟨1,0,some 0⟩) k c,.int .i64 n] true 0),o1]=>match dec xs with
  |some F=>some (.one ⟨rowB U8 k c o1&&(rowL U8 k o1).all (okA U8)&&decide (0≤n)&&(F (rowL U8 k o1) n).1,viP (rowL U8 k o1) c n,(F (rowL U8 k o1) n).2.1,[.to (pkO k c (F (rowL U8 k o1) n).2.2),.same],[]⟩)
  |none=>none
 |_,_=>none
theorem N9_{P:Program}{g:FuncId}{dec:PkD}
  (h: ∀xs F (l:List U8) (c:Nat) (n:Int),dec xs=some F→PkOk l n→(F l n).1=true→c≤1→ ∃(C:Told) (fuel k:Nat) (un:Nat→Nat) (lvs:Nat→List Nat) (ex:Nat→Kt→Prop),a9_ P C∧
   ∀β:Bs,β.X.length=2→ ∀K:AE→List (Option AObj)→Prop,(∀m,m[0]? =some (some (pkO l.length c (F l n).2.2))→K (F l n).2.1 m)→
    lawE P C fuel k β un (cnOf 2 lvs) ex g (.pointer (some ⟨0,0,none⟩)::xs) (mkS (viP l c n)) (outK K))
  (hr: ∀xs F l n,dec xs=some F→bkE (lkAt 2 []) (F l n).2.1=(F l n).2.1):Y8_ P g (pickS (spPk dec)):=by
 intro args objs s hs hb
 unfold pickS spPk at hs
 split at hs
 ·rename_i xs k c n o1
  split at hs
  ·rename_i F hd
   simp only[Option.map_some,Option.some.injEq,SpT.pick]at hs
   subst hs
   have hb':=hb
   simp only[Bool.and_eq_true]at hb'
   obtain⟨⟨⟨b1,b2⟩,b3⟩,b4⟩:=hb'
   obtain⟨l1,m1,c1,v1⟩:=M9_ b1
   refine⟨⟨rfl,fun i o h=> ?_⟩,?_⟩
   ·match i,h with
    |0,h=>cases h;exact⟨_,by rw[l1];rfl,fun h=>h,fun _ _ _ h=>h⟩
    |1,h=>cases h;obtain⟨q,rfl,hq⟩:=v1;exact⟨q,rfl,(fun h=>by cases h),hq⟩
    |_+2,h=>simp[viP]at h
   obtain⟨C,fuel,kk,un,lvs,ex,hC,hl⟩:=h xs F (rowL U8 k o1) c n hd ⟨b2,by rw[l1];exact m1,of_decide_eq_true b3⟩ b4 c1
   refine⟨C,fuel,kk,un,lvs,ex,hC,fun β hβ=> ?_⟩
   refine hl β hβ (fun r l=> ∃l2,a6_ l l2∧effK ⟨rowB U8 k c o1&&(rowL U8 k o1).all (okA U8)&&decide (0≤n)&&(F (rowL U8 k o1) n).1,viP (rowL U8 k o1) c n,(F (rowL U8 k o1) n).2.1,[.to (pkO k c (F (rowL U8 k o1) n).2.2),.same],[]⟩ r (mkS l2)) fun m hm=> ?_
   rw[l1]at hm
   refine⟨m,a6_.refl _,[],rfl,List.nodup_nil,by simp,(hr xs F _ n hd).symm,fun i o h=> ?_,fun j x o h=>by simp at h⟩
   match i,h with
   |0,h=>cases h;rw[b5_,hm];rfl
   |1,h=>cases h
   |i+2,h=>simp at h
  ·cases hs
 ·cases hs
def deN:PkD:=fun xs=>match xs with
 |[.int .i64 m]=>some fun l n=>(decide (m≠0),.returned (.int .i64 (numF l n m).1),(numF l n m).2)
 |_=>none
theorem alT_{l:List U8}{n m:Int}{β:Bs}{K:AE→List (Option AObj)→Prop}(hp:PkOk l n)(hm:m≠0)(c:Nat)(hK: ∀q,q[0]? =some (some (pkO l.length c (numF l n m).2))→K (.returned (.int .i64 (numF l n m).1)) q):
  lawE Tryz.prog R8_ 100 20 β (fun _=>0) (cnOf 2 fun _=>[]) (fun _ _=>False) 21 [.pointer (some ⟨0,0,none⟩),.int .i64 m] (mkS (viP l c n)) (outK K):=by
 refine(anV_ l c n m β K).mpr ?_
 try dsimp only
 have hlen:=hp.len
 have hnn:=hp.nn
 refine a0_ (fun hd=> ?_) (fun hd=> ?_)
 ·have e1:numF l n m=(0,n):=by unfold numF;rw[hd];rfl
  rw[e1]at hK
  exact hK _ rfl
 ·have hlt:n<(l.length:Int):=by simpa using hd
  have w1:IntKind.wrap .i64 (n+1)=n+1:=w64 (by omega) (by omega)
  have w2:IntKind.wrap .i64 (n+1-1)=n:=by rw[w64 (by omega) (by omega)];omega
  have hn:n.toNat<l.length:=by omega
  obtain⟨u1,u2⟩:=w3_ hp.all hn
  have w3:IntKind.wrap .i64 (l.getD n.toNat Enc.dflt).v=(l.getD n.toNat Enc.dflt).v:=w64 (by omega) (by omega)
  have e1:numF l n m=(Int.tmod (l.getD n.toNat Enc.dflt).v m,n+1):=by unfold numF;rw[hd];rfl
  rw[e1]at hK
  rw[w1,w2,Nat.zero_add,w3]
  refine nd_ (by simpa using hnn) (nd_ (by simpa using hn) (nd_ (by simpa using hn) (nd_ (by simpa using hm) (hK _ rfl))))
theorem ait_:Y8_ Tryz.prog 21 (pickS (spPk deN)):=by
 refine N9_ (fun xs F l c n hd hp hb hc=> ?_) (fun xs F l n hd=> ?_)
 ·unfold deN at hd
  split at hd
  ·rename_i m
   cases hd
   exact⟨R8_,100,20,fun _=>0,fun _=>[],fun _ _=>False,R7_,fun β _ K hK=>alT_ hp (by simpa using hb) c hK⟩
  ·cases hd
 ·unfold deN at hd
  split at hd
  ·cases hd;rfl
  ·cases hd
def toldP2:Told:=R8_.effT 21 (spPk deN)
theorem toldP2_ok:a9_ Tryz.prog toldP2:=Told.effT_ok follows R7_ ait_
theorem nF_{l:List U8}{n m:Int}(hp:PkOk l n)(hm:0<m):0≤(numF l n m).1∧(numF l n m).1<m∧PkOk l (numF l n m).2:=by
 unfold numF
 cases hd:decide (n≥Int.ofNat l.length)with
 |true=>exact⟨Int.le_refl _,hm,hp⟩
 |false=>
  have hlt:n<(l.length:Int):=by simpa using hd
  have hn:n.toNat<l.length:=by have:=hp.nn;omega
  obtain⟨u1,u2⟩:=w3_ hp.all hn
  have hnn:=hp.nn
  refine⟨?_,?_,⟨hp.all,hp.len,by show 0≤n+1;omega⟩⟩
  ·exact Int.tmod_nonneg _ u1
  ·show Int.tmod _ _<m
   exact Int.tmod_lt_of_pos _ hm
def Lr(l:List U8):List U8:=rowL U8 (List.length l) (some (.row .look 1 0 (List.length l) (encL l)))
def Br(l:List U8)(c:Nat):Bool:=rowB U8 (List.length l) c (some (.row .look 1 0 (List.length l) (encL l)))
theorem Y7_(l:List U8):Lr l=l:=c7_ l _ _ _ _
theorem PkOk.br{l:List U8}{n:Int}(hp:PkOk l n){c:Nat}(hc:c≤1):Br l c=true:=N0_ .look rfl rfl hp.all hp.len hc
theorem akH_(l:List U8)(c:Nat)(n:Int)(β:Bs)(K:AE→List (Option AObj)→Prop):lawE Tryz.prog toldP2 100 20 β (fun _=>0) (cnOf 2 fun _=>[]) (fun _ _=>False) 44 [.pointer (some ⟨0,0,none⟩)] (mkS (viP l c n)) (outK K)=
 (fun(z4:Nat)=>((fun(z3:AObj)=>((fun(z2:List U8)=>((fun(z5:Int×Int)=>((fun(z0:List (Option AObj)) (z1:Nat)=>(need (rowB U8 z4 c (some z3)&&List.all z2 (okA U8)&&decide ((0:Int)≤n)&&true) (need (decide ((0:Int)≤Prod.fst z5)) (br (Nat.beq z1 0) (K (.returned (.float .f64 0)) z0) (br (Nat.beq z1 1) (K (.returned (.float .f64 9223372036854775808)) z0) (br (Nat.beq z1 2) (K (.returned (.float .f64 4607182418800017408)) z0) (br (Nat.beq z1 3) (K (.returned (.float .f64 13830554455654793216)) z0) (br (Nat.beq z1 4) (K (.returned (.float .f64 4602678819172646912)) z0) (br (Nat.beq z1 5) (K (.returned (.float .f64 4612811918334230528)) z0) (br (Nat.beq z1 6) (K (.returned (.float .f64 13838998704956112896)) z0) (br (Nat.beq z1 7) (K (.returned (.float .f64 9094988921128908188)) z0) (br (Nat.beq z1 8) (K (.returned (.float .f64 2024)) z0) (br (Nat.beq z1 9) (K (.returned (.float .f64 9218868437227405312)) z0) (br (Nat.beq z1 10) (K (.returned (.float .f64 18442240474082181120)) z0) (br (Nat.beq z1 11) (K (.returned (.float .f64 9221120237041090560)) z0) (br (Nat.beq z1 12) (K (.returned (.float .f64 4674736413210574848)) z0) (br (Nat.beq z1 13) (K (.returned (.float .f64 4891288408196988160)) z0) (need (Nat.beq z1 14) (K (.returned (.float .f64 4636737291354636288)) z0))))))))))))))))))) [some (.cells [.slice (some ⟨1,0,some 0⟩) z4 c,.int .i64 (Prod.snd z5)] true 0),some z3,some (.cells [.float .f64 0,.float .f64 9223372036854775808,.float .f64 4607182418800017408,.float .f64 13830554455654793216,.float .f64 4602678819172646912,.float .f64 4612811918334230528,.float .f64 13838998704956112896,.float .f64 9094988921128908188,.float .f64 2024,.float .f64 9218868437227405312,.float .f64 18442240474082181120,.float .f64 9221120237041090560,.float .f64 4674736413210574848,.float .f64 4891288408196988160,.float .f64 4636737291354636288] true 1),none] (Int.toNat (Prod.fst z5)))) (numF z2 n (15:Int)))) (rowL U8 z4 (some z3)))) (.row .look 1 0 z4 (encL l)))) l.length:=by kernel_rfl
theorem ahl_(l:List U8)(c:Nat)(n k:Int)(β:Bs)(K:AE→List (Option AObj)→Prop):lawE Tryz.prog toldP2 100 20 β (fun _=>0) (cnOf 2 fun _=>[]) (fun _ _=>False) 45 [.pointer (some ⟨0,0,none⟩),.int .i64 k] (mkS (viP l c n)) (outK K)=
 (fun(z4:Nat) (z6 z7:Int)=>((fun(z3:AObj)=>((fun(z2:List U8)=>((fun(z5:Int×Int)=>((fun(z0:List (Option AObj)) (z1:Nat)=>(need (rowB U8 z4 c (some z3)&&List.all z2 (okA U8)&&decide ((0:Int)≤n)&&true) (need (decide ((0:Int)≤Prod.fst z5)) (br (Nat.beq z1 0) (K (.returned (.int .i64 (wrF k (0:Int)))) z0) (br (Nat.beq z1 1) (K (.returned (.int .i64 (wrF k (1:Int)))) z0) (br (Nat.beq z1 2) (K (.returned (.int .i64 (wrF k (2:Int)))) z0) (br (Nat.beq z1 3) (K (.returned (.int .i64 (wrF k (3:Int)))) z0) (br (Nat.beq z1 4) (K (.returned (.int .i64 (wrF k (-1:Int)))) z0) (br (Nat.beq z1 5) (K (.returned (.int .i64 (wrF k (7:Int)))) z0) (br (Nat.beq z1 6) (K (.returned (.int .i64 (wrF k (32767:Int)))) z0) (br (Nat.beq z1 7) (K (.returned (.int .i64 (wrF k (-32768:Int)))) z0) (br (Nat.beq z1 8) (K (.returned (.int .i64 (wrF k (2147483647:Int)))) z0) (br (Nat.beq z1 9) (K (.returned (.int .i64 (wrF k (-2147483648:Int)))) z0) (br (Nat.beq z1 10) (K (.returned (.int .i64 (wrF k (100:Int)))) z0) (br (Nat.beq z1 11) (K (.returned (.int .i64 (wrF k z7))) z0) (need (Nat.beq z1 12) (K (.returned (.int .i64 (wrF k z6))) z0))))))))))))))))) [some (.cells [.slice (some ⟨1,0,some 0⟩) z4 c,.int .i64 (Prod.snd z5)] true 0),some z3,some (.cells [.int .i64 (0:Int),.int .i64 (1:Int),.int .i64 (2:Int),.int .i64 (3:Int),.int .i64 (-1:Int),.int .i64 (7:Int),.int .i64 (32767:Int),.int .i64 (-32768:Int),.int .i64 (2147483647:Int),.int .i64 (-2147483648:Int),.int .i64 (100:Int),.int .i64 z7,.int .i64 z6] true 1),none] (Int.toNat (Prod.fst z5)))) (numF z2 n (13:Int)))) (rowL U8 z4 (some z3)))) (.row .look 1 0 z4 (encL l)))) l.length (-9223372036854775808:Int) (9223372036854775807:Int):=by kernel_rfl
end Go.Proofs.YtachglcffimmeaaGreat.Ev
