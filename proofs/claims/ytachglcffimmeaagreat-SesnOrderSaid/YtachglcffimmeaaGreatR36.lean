/-
  A message's bytes are read as that message; plain.
-/
import Derived.Test.YtachglcffimmeaaGreatR35
set_option linter.unusedVariables false
set_option linter.unusedSimpArgs false
set_option maxRecDepth 100000
namespace Go.Proofs.YtachglcffimmeaaGreat.Ev
open Go Go.Proofs Go.RowKit
theorem m3_(f:Nat):bitsN (bitsN f)=bitsN f:=by
 unfold bitsN
 cases h:nanB .f64 f with
 |true=>rfl
 |false=>show cond (nanB .f64 f) _ f=f;rw[h];rfl
theorem agH_{f:Nat}(h:f<18446744073709551616):bitsN f<18446744073709551616:=by
 unfold bitsN
 cases nanB .f64 f
 ·exact h
 ·show 9221120237041090561<_;omega
theorem Q5_{L X S:List U8}{o:Nat}(h:L.drop o=X++S): ∀w,w≤X.length→beN L o w=beN X 0 w
 |0,_=>rfl
 |w+1,hw=>by
  show beN L o w*256+byA L (o+w)=beN X 0 w*256+byA X (0+w)
  rw[Q5_ h w (by omega)]
  have:L.getD (o+w) Enc.dflt=X.getD (0+w) Enc.dflt:=by
   have h1:(L.drop o)[w]? =L[o+w]? :=List.getElem?_drop
   rw[h,List.getElem?_append_left (by omega)]at h1
   show(L[o+w]?).getD _=(X[0+w]?).getD _
   rw[←h1,Nat.zero_add]
  unfold byA
  rw[this]
theorem aiZ_{N:Nat}(h:N<18446744073709551616):beN (hi2 (N:Int)) 0 2=N%65536:=by
 show(0*256+(bU (dU (N:Int))).v.toNat)*256+(bU (N:Int)).v.toNat=_
 rw[e6_ h,p7_,p7_]
 show(0*256+((N/256%256:Nat):Int).toNat)*256+((N%256:Nat):Int).toNat=_
 omega
theorem aql_{N:Nat}(h:N<18446744073709551616):beN (hi4 (N:Int)) 0 4=N%4294967296:=by
 show(((0*256+(bU (dU (dU (dU (N:Int))))).v.toNat)*256+(bU (dU (dU (N:Int)))).v.toNat)*256+(bU (dU (N:Int))).v.toNat)*256+(bU (N:Int)).v.toNat=_
 rw[e6_ h,e6_ (show N/256<18446744073709551616 by omega),e6_ (show N/256/256<18446744073709551616 by omega),p7_,p7_,p7_,p7_]
 show(((0*256+((N/256/256/256%256:Nat):Int).toNat)*256+((N/256/256%256:Nat):Int).toNat)*256+((N/256%256:Nat):Int).toNat)*256+((N%256:Nat):Int).toNat=_
 simp only[Int.toNat_natCast]
 omega
theorem amO_{N:Nat}(h:N<18446744073709551616):beN (hi8 (N:Int)) 0 8=N:=by
 show(((((((0*256+(bU (dU (dU (dU (dU (dU (dU (dU (N:Int))))))))).v.toNat)*256+(bU (dU (dU (dU (dU (dU (dU (N:Int)))))))).v.toNat)*256+(bU (dU (dU (dU (dU (dU (N:Int))))))).v.toNat)*256+(bU (dU (dU (dU (dU (N:Int)))))).v.toNat)*256+(bU (dU (dU (dU (N:Int))))).v.toNat)*256+(bU (dU (dU (N:Int)))).v.toNat)*256+(bU (dU (N:Int))).v.toNat)*256+(bU (N:Int)).v.toNat=_
 have h1:N/256<72057594037927936:=by omega
 rw[e6_ h]
 generalize hN1:N/256=N1 at*
 rw[e6_ (show N1<18446744073709551616 by omega)]
 generalize hN2:N1/256=N2 at*
 rw[e6_ (show N2<18446744073709551616 by omega)]
 generalize hN3:N2/256=N3 at*
 rw[e6_ (show N3<18446744073709551616 by omega)]
 generalize hN4:N3/256=N4 at*
 rw[e6_ (show N4<18446744073709551616 by omega)]
 generalize hN5:N4/256=N5 at*
 rw[e6_ (show N5<18446744073709551616 by omega)]
 generalize hN6:N5/256=N6 at*
 rw[e6_ (show N6<18446744073709551616 by omega)]
 generalize hN7:N6/256=N7 at*
 simp only[p7_,Int.toNat_natCast]
 omega
theorem anO_{i:Int}(h1: -9223372036854775808≤i)(h2:i<9223372036854775808): ∃N:Nat,IntKind.wrap .u64 i=(N:Int)∧N<18446744073709551616∧IntKind.wrap .i64 (N:Int)=i:=by
 obtain⟨N,hN,hl⟩:=C6_ i
 refine⟨N,hN,hl,?_⟩
 rw[←hN]
 unfold IntKind.wrap
 simp[IntKind.signed,IntKind.bits]
 omega
def cnV(v:Vl):Vl:=⟨v.k,v.i,bitsN v.f⟩
def rgV(v:Vl):Prop:= -9223372036854775808≤v.i∧v.i<9223372036854775808
theorem X3_{v:Vl}(h:fV v=true):(v.k≠5→v.f=0)∧v.f<18446744073709551616:=by
 unfold fV at h
 rw[Bool.or_eq_true,Bool.and_eq_true]at h
 rcases h with⟨h1,h2⟩|h
 ·have h2:=Nat.le_of_ble_eq_true h2
  have h1:=eq_of_beq h1
  exact⟨fun h=>absurd h1 h,by omega⟩
 ·have:=Nat.eq_of_beq_eq_true h
  exact⟨fun _=>this,by omega⟩
theorem apL_{v:Vl}(hm:mvB v.k v.i v.f=true)(hr:rgV v)(hf:fV v=true):tkV v.k (rwL v)=cnV v:=by
 obtain⟨k,i,f⟩:=v
 obtain⟨k1,k5⟩:=afB_ hm
 obtain⟨f0,fl⟩:=X3_ hf
 have f0:k≠5→f=0:=f0
 have fl:f<18446744073709551616:=fl
 obtain⟨N,hN,hl,hw⟩:=anO_ hr.1 hr.2
 have hN:IntKind.wrap .u64 i=(N:Int):=hN
 have hw:IntKind.wrap .i64 (N:Int)=i:=hw
 have hm:cond (k==5) (i==0) (decide (k≥1)&&decide (k≤5)&&(Int.ofNat (bitsN f)==0)&&(wrF k i==i))=true:=hm
 have hk:k=1∨k=2∨k=3∨k=4∨k=5:=by
  have k1:1≤k:=k1
  have k5:k≤5:=k5
  omega
 have hwr:k≠5→wrF k i=i:=fun h=>by
  rw[show(k==5)=false by simpa using h,cond_false,Bool.and_eq_true]at hm
  exact eq_of_beq hm.2
 rcases hk with rfl|rfl|rfl|rfl|rfl
 ·have:=hwr (by omega)
  have hi:i=0∨i=1:=by
   have:(if i=0 then(0:Int)else 1)=i:=this
   split at this<;>omega
  have hf:=f0 (by omega)
  subst hf
  rcases hi with rfl|rfl<;>rfl
 ·have h2:=hwr (by omega)
  have hf:=f0 (by omega)
  subst hf
  show(⟨2,IntKind.wrap .i16 (IntKind.wrap .i64 ((beN (hi2 (IntKind.wrap .u64 i)) 0 2:Nat):Int)),0⟩:Vl)=⟨2,i,0⟩
  rw[hN,aiZ_ hl]
  have h2:IntKind.wrap .i16 i=i:=h2
  congr 1
  have hw:IntKind.wrap .i64 (N:Int)=i:=hw
  rw[←hw]at h2 ⊢
  unfold IntKind.wrap at h2 ⊢
  simp[IntKind.signed,IntKind.bits]at h2 ⊢
  omega
 ·have h2:=hwr (by omega)
  have hf:=f0 (by omega)
  subst hf
  show(⟨3,IntKind.wrap .i32 (IntKind.wrap .i64 ((beN (hi4 (IntKind.wrap .u64 i)) 0 4:Nat):Int)),0⟩:Vl)=⟨3,i,0⟩
  rw[hN,aql_ hl]
  have h2:IntKind.wrap .i32 i=i:=h2
  congr 1
  have hw:IntKind.wrap .i64 (N:Int)=i:=hw
  rw[←hw]at h2 ⊢
  unfold IntKind.wrap at h2 ⊢
  simp[IntKind.signed,IntKind.bits]at h2 ⊢
  omega
 ·have hf:=f0 (by omega)
  subst hf
  show(⟨4,IntKind.wrap .i64 ((beN (hi8 (IntKind.wrap .u64 i)) 0 8:Nat):Int),0⟩:Vl)=⟨4,i,0⟩
  rw[hN,amO_ hl,hw]
 ·have hi:i=0:=eq_of_beq hm
  subst hi
  show(⟨5,0,beN (hi8 ((bitsN f:Nat):Int)) 0 8⟩:Vl)=⟨5,0,bitsN f⟩
  rw[amO_ (agH_ fl)]
theorem aoh_(v:Vl):rwL (cnV v)=rwL v:=by
 unfold rwL cnV
 show cond (v.k==5) (hi8 (Int.ofNat (bitsN (bitsN v.f)))) _=_
 rw[m3_]
theorem aoo_(v:Vl):pvL (cnV v)=pvL v:=by rw[abE_,abE_,aoh_];rfl
theorem aow_(v:Vl):mvB (cnV v).k (cnV v).i (cnV v).f=mvB v.k v.i v.f:=by
 show mvB v.k v.i (bitsN v.f)=_
 unfold mvB
 rw[m3_]
theorem k8_{N:Nat}(h:N<256):IntKind.wrap .u8 (N:Int)=(N:Int):=by rw[ako_];congr 1;omega
theorem G9_{L X:List U8}{n N:Nat}(hn:n≤L.length)(hd:L.drop (L.length-n)=(⟨(N:Int)⟩:U8)::X)(hN:N<256):Nat.blt n 1=false∧beN L (L.length-n) 1=N∧fkF L n=(N:Int)∧L.drop (L.length-(n-1))=X:=by
 have h1:1≤n:=by
  have:=congrArg List.length hd
  rw[List.length_drop,List.length_cons]at this
  omega
 have hb:beN L (L.length-n) 1=N:=by
  have:L.drop (L.length-n)=[(⟨(N:Int)⟩:U8)]++X:=hd
  rw[Q5_ this 1 (Nat.le_refl _)]
  show 0*256+((N:Int)).toNat=N
  omega
 refine⟨?_,hb,?_,?_⟩
 ·rw[Bool.eq_false_iff];intro h;have:=Nat.le_of_ble_eq_true h;omega
 ·unfold fkF
  rw[hb,Int.ofNat_eq_natCast,w64 (by omega) (by omega)]
 ·have:L.drop (L.length-(n-1))=(L.drop (L.length-n)).drop 1:=by
   rw[List.drop_drop];congr 1;omega
  rw[this,hd];rfl
theorem ajL_{L X:List U8}{n:Nat}{v:Vl}(hn:n≤L.length)(hd:L.drop (L.length-n)=pvL v++X)(hm:mvB v.k v.i v.f=true)(hr:rgV v)(hf:fV v=true):
  Nat.blt n 1=false∧(fkF L n==0)=false∧frF L n=false∧fsF L n=false∧tkQ (fkF L n) (fpF L n)=true∧vvF L n=cnV v∧L.drop (L.length-vnF L n)=X∧vnF L n+(pvL v).length=n:=by
 obtain⟨k1,k5⟩:=afB_ hm
 have hk:v.k=1∨v.k=2∨v.k=3∨v.k=4∨v.k=5:=by omega
 obtain⟨N,hN⟩:=Int.eq_ofNat_of_zero_le (show 0≤v.k by omega)
 have hN5:N≤5:=by omega
 rw[abE_,hN,k8_ (by omega)]at hd
 obtain⟨b1,b2,b3,b4⟩:=G9_ hn hd (by omega)
 rw[←hN]at b3
 have b4:L.drop (L.length-(n-1))=rwL v++X:=b4
 have hl:=alm_ hk
 have hlen:=congrArg List.length b4
 rw[List.length_drop]at hlen
 have hn1:=L8_ b1
 have hw:(rwL v).length+X.length=n-1:=by
  rw[List.length_append]at hlen
  omega
 have h0:(fkF L n==0)=false:=by rw[b3];simp;omega
 have hrr:frF L n=false:=by unfold frF;rw[b3,decide_eq_false (by omega),decide_eq_false (by omega)];rfl
 have hs:fsF L n=false:=by
  unfold fsF
  rw[b3,Bool.eq_false_iff]
  intro h
  have:=Nat.le_of_ble_eq_true h
  omega
 have hp:fpF L n=rwL v:=by
  unfold fpF
  rw[b3,aiB_ (by omega),b4]
  show((rwL v)++X).take (wiK v.k)=_
  rw[←hl,List.take_left'];rfl
 have ht:=apL_ hm hr hf
 refine⟨b1,h0,hrr,hs,?_,?_,?_,?_⟩
 ·unfold tkQ
  rw[hp,b3,ht,aoh_,hl,Nat.beq_refl]
  simp
 ·unfold vvF
  rw[h0,hp,b3]
  show(tkV v.k (rwL v):Vl)=_
  exact ht
 ·have hv:vnF L n=n-1-wiK v.k:=by unfold vnF;rw[h0,b3];rfl
  have:L.drop (L.length-vnF L n)=(L.drop (L.length-(n-1))).drop (rwL v).length:=by
   rw[List.drop_drop];congr 1;omega
  rw[this,b4,List.drop_left'];rfl
 ·have hv:vnF L n=n-1-wiK v.k:=by unfold vnF;rw[h0,b3];rfl
  rw[hv,abE_,List.length_cons];omega
theorem aju_{L:List U8}: ∀(l:List Vl) (n:Nat) (acc:List Vl) (X:List U8),n≤L.length→L.drop (L.length-n)=l.flatMap pvL++X→(∀v∈l,mvB v.k v.i v.f=true∧rgV v∧fV v=true)→ ∃k,vfL L l.length n acc=some (acc++l.map cnV,k)
 |[],n,acc,X,hn,hd,h=>⟨n,by simp[vfL]⟩
 |v::l,n,acc,X,hn,hd,h=>by
  rw[List.flatMap_cons,List.append_assoc]at hd
  obtain⟨h1,h2,h3⟩:=h v List.mem_cons_self
  obtain⟨c1,c2,c3,c4,c5,c6,c7,c8⟩:=ajL_ hn hd h1 h2 h3
  obtain⟨k,hk⟩:=aju_ l (vnF L n) (acc++[vvF L n]) X (by omega) c7 fun w hw=>h w (List.mem_cons_of_mem _ hw)
  refine⟨k,?_⟩
  have hb:vbF L n=false:=by unfold vbF;rw[c1,c3,c4,c5];rfl
  show cond (vbF L n) none (vfL L l.length (vnF L n) (acc++[vvF L n]))=_
  rw[hb]
  show vfL L l.length (vnF L n) (acc++[vvF L n])=_
  rw[hk,c6]
  simp
theorem aeo_(s:ByteArray):strU (strL s)=s:=by
 obtain⟨a⟩:=s
 unfold strU strL
 congr 1
 refine Array.ext ?_ fun i h1 h2=> ?_
 ·simp;rfl
 ·simp
  show UInt8.ofNat ((a.toList.getD i 0).toNat)=a[i]
  rw[show a.toList.getD i 0=a[i]by simp[List.getD,h2]]
  exact UInt8.ofNat_toNat
theorem apT_{L X:List U8}{n:Nat}{s:St}(hn:n≤L.length)(hd:L.drop (L.length-n)=ptL s++X)(h20:s.s.size≤20):
  pbF L n=false∧pvF' L n=s∧L.drop (L.length-(n-1-kbF L n))=X∧n-1-kbF L n+(ptL s).length=n:=by
 have hd':L.drop (L.length-n)=(⟨((s.s.size:Nat):Int)⟩:U8)::(strL s.s++X):=by
  rw[hd]
  show(⟨IntKind.wrap .u8 ((s.s.size:Nat):Int)⟩:U8)::(strL s.s++X)=_
  rw[k8_ (by omega)]
 obtain⟨b1,b2,b3,b4⟩:=G9_ hn hd' (by omega)
 have hlen:=congrArg List.length b4
 have hl:=M7_ s.s
 have hn1:=L8_ b1
 rw[List.length_drop,List.length_append,hl]at hlen
 have hkb:kbF L n=s.s.size:=by unfold kbF;rw[b3];exact Int.toNat_natCast _
 refine⟨?_,?_,?_,?_⟩
 ·unfold pbF
  rw[b1,b3,decide_eq_false (by rw[Int.ofNat_eq_natCast];omega)];rfl
 ·unfold pvF'
  rw[hkb,D7_ L (by omega),b4,←hl,List.take_left',aeo_]
  rfl
 ·have:L.drop (L.length-(n-1-kbF L n))=(L.drop (L.length-(n-1))).drop (strL s.s).length:=by
   rw[List.drop_drop];congr 1;omega
  rw[this,b4,List.drop_left'];rfl
 ·rw[O1_,hkb];omega
theorem ajR_{L:List U8}: ∀(l:List St) (n:Nat) (acc:List St) (X:List U8),n≤L.length→L.drop (L.length-n)=l.flatMap ptL++X→(∀s∈l,s.s.size≤20)→ ∃k,pfL L l.length n acc=some (acc++l,k)∧k≤n∧L.drop (L.length-k)=X
 |[],n,acc,X,hn,hd,h=>⟨n,by simp[pfL],Nat.le_refl _,hd⟩
 |s::l,n,acc,X,hn,hd,h=>by
  rw[List.flatMap_cons,List.append_assoc]at hd
  obtain⟨c1,c2,c3,c4⟩:=apT_ hn hd (h s List.mem_cons_self)
  obtain⟨k,hk,hk2,hk3⟩:=ajR_ l (n-1-kbF L n) (acc++[pvF' L n]) X (by omega) c3 fun w hw=>h w (List.mem_cons_of_mem _ hw)
  refine⟨k,?_,by omega,hk3⟩
  show cond (pbF L n) none (pfL L l.length (n-1-kbF L n) (acc++[pvF' L n]))=_
  rw[c1]
  show pfL L l.length (n-1-kbF L n) (acc++[pvF' L n])=_
  rw[hk,c2]
  simp
def cnM(m:Ms):Ms:=⟨m.k,m.id,m.er,m.n,m.sq,m.lo,m.ev,cnV m.bd,m.ps,1,m.vs.map cnV,1⟩
theorem P7_{m:Ms}(hf:fitM m=true):(∀v∈m.vs,fV v=true)∧fV m.bd=true:=by
 unfold fitM at hf
 rw[Bool.and_eq_true,List.all_eq_true]at hf
 exact hf
theorem akh_{v:Vl}(h:fV v=true):fV (cnV v)=true:=by
 obtain⟨h1,h2⟩:=X3_ h
 have h3:=agH_ h2
 unfold fV at h ⊢
 show(v.k==5&&Nat.blt (bitsN v.f) 18446744073709551616||Nat.beq (bitsN v.f) 0)=true
 by_cases h5:v.k=5
 ·rw[h5]
  have:Nat.blt (bitsN v.f) 18446744073709551616=true:=Nat.ble_eq_true_of_le (by omega)
  rw[this];rfl
 ·rw[h1 h5]
  show(_||true)=true
  rw[Bool.or_true]
theorem amA_{m:Ms}(hf:fitM m=true):fitM (cnM m)=true:=by
 obtain⟨h1,h2⟩:=P7_ hf
 unfold fitM
 rw[Bool.and_eq_true,List.all_eq_true]
 refine⟨fun v hv=> ?_,akh_ h2⟩
 obtain⟨u,hu,rfl⟩:=List.mem_map.1 hv
 exact akh_ (h1 u hu)
theorem add_{m:Ms}(hf:fitM m=true):(∀v∈m.vs,v.k≠5→v.f=0)∧(m.bd.k≠5→m.bd.f=0):=by
 obtain⟨h1,h2⟩:=P7_ hf
 exact⟨fun v hv=>(X3_ (h1 v hv)).1,(X3_ h2).1⟩
theorem aoW_(v:Vl):zQ (cnV v)=zQ v:=by
 unfold zQ cnV
 show(bif v.k==0 then bif v.i==0 then Int.ofNat (bitsN (bitsN v.f))==0 else false else false)=_
 rw[m3_]
theorem amQ_(v:Vl):bdOk (cnV v)=bdOk v:=by
 unfold bdOk
 rw[aow_]
 show cond (v.k==0) (!(v.i !=0)&& !(Int.ofNat (bitsN (bitsN v.f)) !=0)) _=_
 rw[m3_]
theorem anM_(m:Ms):vOkB (cnM m)=vOkB m:=by
 show((m.vs.map cnV).all fun v=>mvB v.k v.i v.f)=m.vs.all fun v=>mvB v.k v.i v.f
 rw[List.all_map]
 congr 1
 funext v
 exact aow_ v
theorem apP_{m:Ms}(h1:1≤m.k)(h7:m.k≤7):c2_ (e8_ (cnM m)) (cnM m)=c2_ (e8_ m) m:=by
 have hz:=aoW_ m.bd
 have hl:(m.vs.map cnV).length=m.vs.length:=List.length_map ..
 have hk:(m.k=3∨m.k=5)∨m.k=1∨m.k=2∨m.k=4∨m.k=6∨m.k=7:=by omega
 rcases hk with h|h|h|h|h|h
 ·rw[sm35 h,sm35 (m:=cnM m) h]
  show(_&&_&&_&&_&&zQ (cnV m.bd)&&_&&Int.ofNat (m.vs.map cnV).length==0)=_
  rw[hz,hl];rfl
 ·rw[sm1 h,sm1 (m:=cnM m) h]
  show(_&&_&&_&&_&&_&&zQ (cnV m.bd)&&Int.ofNat (m.vs.map cnV).length==0)=_
  rw[hz,hl];rfl
 ·rw[sm2 h,sm2 (m:=cnM m) h]
  show(_&&_&&_&&_&&_&&zQ (cnV m.bd))=_
  rw[hz];rfl
 ·rw[sm4 h,sm4 (m:=cnM m) h]
  show(_&&_&&_&&Int.ofNat (m.vs.map cnV).length==0)=_
  rw[hl];rfl
 ·rw[sm6 h,sm6 (m:=cnM m) h]
  show(_&&_&&_&&zQ (cnV m.bd))=_
  rw[hz];rfl
 ·rw[sm7 h,sm7 (m:=cnM m) h]
  show(_&&_&&_&&zQ (cnV m.bd)&&_)=_
  rw[hz];rfl
theorem alX_{m:Ms}(hf:fitM m=true):mayM (cnM m)=mayM m:=by
 obtain⟨f1,f2⟩:=add_ hf
 obtain⟨g1,g2⟩:=add_ (amA_ hf)
 rw[x2_ f1 f2,x2_ g1 g2]
 have ht:tlQ (cnM m)=tlQ m:=by
  rw[S7_ f1 f2,S7_ g1 g2,anM_]
  show(_&&_&&_&&(_&&_)&&(_&&_)&&_&&_&& !decide (Int.ofNat (m.vs.map cnV).length>5)&&_&&bdOk (cnV m.bd))=_
  rw[List.length_map,amQ_];rfl
 rw[ht]
 show(decide (m.k≥1)&&decide (m.k≤7)&&_&&_)=_
 by_cases h1:1≤m.k
 ·by_cases h7:m.k≤7
  ·rw[apP_ h1 h7]
  ·rw[decide_eq_false (show¬m.k≤7 from h7),Bool.and_false];rfl
 ·rw[decide_eq_false (show¬m.k≥1 from h1)];rfl
theorem aop_{a b:Ms}(h1:hdM a=hdM b)(h2:a.ps=b.ps)(h3:a.vs.length=b.vs.length)(h4:a.vs.flatMap pvL=b.vs.flatMap pvL):pmV a=pmV b:=by
 unfold pmV pmP
 rw[h1,h2,h3,h4]
theorem aoD_{a b:Ms}(h1:a.k=b.k)(h2:a.id=b.id)(h3:a.n=b.n)(h4:a.sq=b.sq)(h5:a.er=b.er)(h6:a.lo=b.lo)(h7:a.ev=b.ev)(h8:bdL a.bd=bdL b.bd)(h9:a.ps=b.ps):hdM a=hdM b:=by
 unfold hdM
 rw[h1,h2,h3,h4,h5,h6,h7,h8,h9]
theorem aoN_(v:Vl):bdL (cnV v)=bdL v:=by
 unfold bdL
 rw[aoo_];rfl
theorem aoI_: ∀l:List Vl,(l.map cnV).flatMap pvL=l.flatMap pvL
 |[]=>rfl
 |v::l=>by
  rw[List.map_cons,List.flatMap_cons,List.flatMap_cons,aoo_,aoI_ l]
theorem aoq_(m:Ms):pmV (cnM m)=pmV m:=aop_ (aoD_ rfl rfl rfl rfl rfl rfl rfl (aoN_ m.bd) rfl) rfl (List.length_map ..) (aoI_ m.vs)
def hdA(m:Ms):List U8:=[⟨IntKind.wrap .u8 m.k⟩]++hi2 (IntKind.wrap .u64 m.id)++hi2 (IntKind.wrap .u64 m.n)++hi2 (IntKind.wrap .u64 m.sq)++[⟨IntKind.wrap .u8 m.er⟩,⟨cond m.lo 1 0⟩]++hi8 (IntKind.wrap .u64 m.ev)
def r3M(m:Ms):List U8:=⟨IntKind.wrap .u8 (Int.ofNat m.vs.length)⟩::m.vs.flatMap pvL
def r2M(m:Ms):List U8:=⟨IntKind.wrap .u8 (Int.ofNat m.ps.length)⟩::(m.ps.flatMap ptL++r3M m)
theorem afj_(m:Ms):pmV m=hdA m++(bdL m.bd++r2M m):=by
 unfold pmV pmP hdM hdA r2M r3M
 simp only[List.append_assoc,List.cons_append,List.nil_append]
theorem aiD_{m:Ms}(hm:mayM m=true)(hf:fitM m=true):(1≤m.k∧m.k≤7)∧(0≤m.id∧m.id≤65535)∧(0≤m.n∧m.n≤65535)∧(0≤m.sq∧m.sq≤65535)∧(0≤m.ev∧m.ev≤1125899906842624)∧(0≤m.er∧m.er≤13):=by
 obtain⟨f1,f2⟩:=add_ hf
 rw[x2_ f1 f2,S7_ f1 f2]at hm
 unfold insB at hm
 simp only[Bool.and_eq_true,decide_eq_true_eq]at hm
 omega
theorem ada_{L X S:List U8}{o w N:Nat}(h:L.drop o=X++S)(hw:w≤X.length)(hN:beN X 0 w=N)(hl:o≤L.length){n:Nat}(hn:n=L.length-o)(hb:N<9223372036854775808):hfK L n w=(N:Int):=by
 unfold hfK
 have:L.length-n=o:=by omega
 rw[this,Q5_ h w hw,hN,Int.ofNat_eq_natCast,w64 (by omega) (by omega)]
theorem K6_{x:Int}{b:Nat}(h1:0≤x)(h2:x≤(b:Int)): ∃N:Nat,x=(N:Int)∧N≤b:=⟨x.toNat,by omega,by omega⟩
theorem A3_{N:Nat}(h:N<18446744073709551616):IntKind.wrap .u64 (N:Int)=(N:Int):=i7_ h
theorem ahA_{m:Ms}(hm:mayM m=true)(hf:fitM m=true)(hrv: ∀v∈m.vs,rgV v)(hrb:rgV m.bd)(hl:(pmV m).length≤200):e2_ (pmV m)=some (cnM m):=by
 obtain⟨⟨k1,k7⟩,⟨i0,i1⟩,⟨n0,n1⟩,⟨s0,s1⟩,⟨v0,v1⟩,⟨r0,r1⟩⟩:=aiD_ hm hf
 obtain⟨i5,i6,ip,iv,ib⟩:=abR_ hm
 obtain⟨fv,fb⟩:=P7_ hf
 have hsp:=afj_ m
 have hcn:=aoq_ m
 have hmc:=alX_ hf
 generalize hLe:pmV m=L at*
 obtain⟨K,hK,hK2⟩:=K6_ (b:=7) (show 0≤m.k by omega) k7
 obtain⟨I,hI,hI2⟩:=K6_ (b:=65535) i0 i1
 obtain⟨N,hN,hN2⟩:=K6_ (b:=65535) n0 n1
 obtain⟨S,hS,hS2⟩:=K6_ (b:=65535) s0 s1
 obtain⟨E,hE,hE2⟩:=K6_ (b:=1125899906842624) v0 v1
 obtain⟨R,hR,hR2⟩:=K6_ (b:=13) r0 r1
 have hA:hdA m=[⟨(K:Int)⟩]++hi2 (I:Int)++hi2 (N:Int)++hi2 (S:Int)++[⟨(R:Int)⟩,⟨cond m.lo 1 0⟩]++hi8 (E:Int):=by
  unfold hdA
  rw[hK,hI,hN,hS,hE,hR,A3_ (by omega),A3_ (by omega),A3_ (by omega),A3_ (by omega),k8_ (by omega),k8_ (by omega)]
 rw[hA]at hsp
 have hlen:L.length=17+(bdL m.bd++r2M m).length:=by
  rw[hsp,List.length_append];rfl
 have hbl:=(agJ_ m.bd).2
 rw[List.length_append]at hlen
 generalize hT:bdL m.bd++r2M m=T at hsp
 have d0:L.drop 0=[(⟨(K:Int)⟩:U8)]++(hi2 (I:Int)++(hi2 (N:Int)++(hi2 (S:Int)++([⟨(R:Int)⟩]++([⟨cond m.lo 1 0⟩]++(hi8 (E:Int)++T)))))):=by rw[hsp];rfl
 have d1:L.drop 1=hi2 (I:Int)++(hi2 (N:Int)++(hi2 (S:Int)++([⟨(R:Int)⟩]++([⟨cond m.lo 1 0⟩]++(hi8 (E:Int)++T))))):=by rw[hsp];rfl
 have d3:L.drop 3=hi2 (N:Int)++(hi2 (S:Int)++([⟨(R:Int)⟩]++([⟨cond m.lo 1 0⟩]++(hi8 (E:Int)++T)))):=by rw[hsp];rfl
 have d5:L.drop 5=hi2 (S:Int)++([⟨(R:Int)⟩]++([⟨cond m.lo 1 0⟩]++(hi8 (E:Int)++T))):=by rw[hsp];rfl
 have d7:L.drop 7=[(⟨(R:Int)⟩:U8)]++([⟨cond m.lo 1 0⟩]++(hi8 (E:Int)++T)):=by rw[hsp];rfl
 have d8:L.drop 8=[(⟨cond m.lo 1 0⟩:U8)]++(hi8 (E:Int)++T):=by rw[hsp];rfl
 have d9:L.drop 9=hi8 (E:Int)++T:=by rw[hsp];rfl
 have d17:L.drop 17=T:=by rw[hsp];rfl
 have one: ∀x:Nat,beN [(⟨(x:Int)⟩:U8)] 0 1=x:=fun x=>by
  show 0*256+((x:Int)).toNat=x
  omega
 have e0:hfK L L.length 1=m.k:=by rw[hK];exact ada_ d0 (Nat.le_refl 1) (one K) (by omega) (by omega) (by omega)
 have e1:hfK L (L.length-1) 2=m.id:=by rw[hI];exact ada_ d1 (Nat.le_refl 2) (by rw[aiZ_ (by omega)];omega) (by omega) (by omega) (by omega)
 have e3:hfK L (L.length-1-2) 2=m.n:=by rw[hN];exact ada_ d3 (Nat.le_refl 2) (by rw[aiZ_ (by omega)];omega) (by omega) (by omega) (by omega)
 have e5:hfK L (L.length-1-2-2) 2=m.sq:=by rw[hS];exact ada_ d5 (Nat.le_refl 2) (by rw[aiZ_ (by omega)];omega) (by omega) (by omega) (by omega)
 have e7:hfK L (L.length-1-2-2-2) 1=m.er:=by rw[hR];exact ada_ d7 (Nat.le_refl 1) (one R) (by omega) (by omega) (by omega)
 have e9:hfK L (L.length-1-2-2-2-1-1) 8=m.ev:=by rw[hE];exact ada_ d9 (Nat.le_refl 8) (amO_ (by omega)) (by omega) (by omega) (by omega)
 have e8:(Int.ofNat (beN L (L.length-(L.length-1-2-2-2-1)) 1) !=(0:Int))=m.lo:=by
  have:L.length-(L.length-1-2-2-2-1)=8:=by omega
  rw[this,Q5_ d8 1 (Nat.le_refl 1)]
  cases m.lo<;>rfl
 have hb: ∀n w:Nat,w≤n→Nat.blt n w=false:=fun n w h=>by
  rw[Bool.eq_false_iff]
  intro h1
  have:=Nat.le_of_ble_eq_true h1
  omega
 have b0:=hb L.length 1 (by omega)
 have b1:=hb (L.length-1) 2 (by omega)
 have b2:=hb (L.length-1-2) 2 (by omega)
 have b3:=hb (L.length-1-2-2) 2 (by omega)
 have b4:=hb (L.length-1-2-2-2) 1 (by omega)
 have b5:=hb (L.length-1-2-2-2-1) 1 (by omega)
 have b6:=hb (L.length-1-2-2-2-1-1) 8 (by omega)
 have h7:nH7 L=L.length-17:=by unfold nH7;omega
 have h7n:nH7 L≤L.length:=by omega
 have d17':L.drop (L.length-nH7 L)=bdL m.bd++r2M m:=by
  rw[hT,←d17];congr 1;omega
 have hband:(fvF true).bd L (nH7 L)=false∧vvF L (nH7 L)=cnV m.bd∧L.drop (L.length-nH8 L)=r2M m∧nH8 L≤L.length:=by
  have bd_eq:(fvF true).bd L (nH7 L)=(Nat.blt (nH7 L) 1||cond (fkF L (nH7 L)==0) false (frF L (nH7 L)||(fsF L (nH7 L)|| !tkQ (fkF L (nH7 L)) (fpF L (nH7 L))))):=rfl
  rw[bd_eq]
  unfold bdOk at ib
  cases hk:m.bd.k==0 with
  |true=>
   rw[hk]at ib
   have hk0:=eq_of_beq hk
   have ib:(!(m.bd.i !=0)&& !(Int.ofNat (bitsN m.bd.f) !=0))=true:=ib
   rw[Bool.and_eq_true]at ib
   have hi0:m.bd.i=0:=by simpa using ib.1
   have hf0:bitsN m.bd.f=0:=by have:=ib.2;simp at this;omega
   have hbL:bdL m.bd=[⟨((0:Nat):Int)⟩]:=by unfold bdL;rw[hk];rfl
   rw[hbL]at d17'
   obtain⟨c1,c2,c3,c4⟩:=G9_ h7n d17' (by omega)
   have hz:(fkF L (nH7 L)==0)=true:=by rw[c3];rfl
   rw[c1,hz]
   have hn8:nH8 L=nH7 L-1:=by show vnF L (nH7 L)=_;unfold vnF;rw[hz];rfl
   refine⟨rfl,?_,by rw[hn8];exact c4,by omega⟩
   unfold vvF cnV
   rw[hz,hk0,hi0,hf0];rfl
  |false=>
   rw[hk]at ib
   have ib:mvB m.bd.k m.bd.i m.bd.f=true:=ib
   have hbL:bdL m.bd=pvL m.bd:=by unfold bdL;rw[hk];rfl
   rw[hbL]at d17'
   obtain⟨c1,c2,c3,c4,c5,c6,c7,c8⟩:=ajL_ h7n d17' ib hrb fb
   rw[c1,c2,c3,c4,c5]
   exact⟨rfl,c6,c7,by show vnF L (nH7 L)≤_;omega⟩
 obtain⟨g1,g2,g3,g4⟩:=hband
 have hr2:r2M m=(⟨((m.ps.length:Nat):Int)⟩:U8)::(m.ps.flatMap ptL++r3M m):=by
  unfold r2M
  rw[Int.ofNat_eq_natCast,k8_ (by omega)]
 have hr3:r3M m=(⟨((m.vs.length:Nat):Int)⟩:U8)::(m.vs.flatMap pvL++[]):=by
  unfold r3M
  rw[Int.ofNat_eq_natCast,k8_ (by omega),List.append_nil]
 rw[hr2]at g3
 obtain⟨c1,c2,c3,c4⟩:=G9_ g4 g3 (by omega)
 have hp20: ∀s∈m.ps,s.s.size≤20:=fun s hs=>by
  unfold pOkB at ip
  rw[List.all_eq_true]at ip
  have:=ip s hs
  simp only[Bool.and_eq_true,Bool.not_eq_true',decide_eq_false_iff_not]at this
  have h2:=this.2
  rw[Int.ofNat_eq_natCast]at h2
  omega
 obtain⟨kp,p1,p2,p3⟩:=ajR_ m.ps (nH8 L-1) [] (r3M m) (by omega) c4 hp20
 rw[hr3]at p3
 obtain⟨q1,q2,q3,q4⟩:=G9_ (by omega) p3 (by omega)
 have hv3: ∀v∈m.vs,mvB v.k v.i v.f=true∧rgV v∧fV v=true:=fun v hv=>by
  unfold vOkB at iv
  rw[List.all_eq_true]at iv
  exact⟨iv v hv,hrv v hv,fv v hv⟩
 obtain⟨kv,w1⟩:=aju_ m.vs (kp-1) [] [] (by omega) q4 hv3
 unfold e2_
 rw[b0,b1,b2,b3,b4,b5,b6,g1]
 show tk0 L=_
 unfold tk0
 rw[c1,c2,p1]
 show tk1 L (i3_ (hdH L) ([]++m.ps)) kp=_
 unfold tk1
 rw[q1,q2,w1]
 have hM:k9_ (i3_ (hdH L) ([]++m.ps)) (i3_ (hdH L) ([]++m.ps)).ps ([]++m.vs.map cnV)=cnM m:=by
  unfold hdH
  rw[e0,e1,e3,e5,e7,e8,e9,g2];rfl
 show tk2 L (k9_ (i3_ (hdH L) ([]++m.ps)) (i3_ (hdH L) ([]++m.ps)).ps ([]++m.vs.map cnV))=_
 rw[hM]
 unfold tk2
 have hne:(Int.ofNat L.length==0)=false:=by
  rw[Int.ofNat_eq_natCast,Bool.eq_false_iff]
  intro h
  have:=eq_of_beq h
  omega
 have hpm:pmL (cnM m)=L:=by
  unfold pmL
  rw[hmc,hm,hcn]
  show cond (decide (Int.ofNat L.length>200)) [] L=L
  rw[decide_eq_false (by rw[Int.ofNat_eq_natCast];omega)];rfl
 rw[hne,hpm,J8_];rfl
end Go.Proofs.YtachglcffimmeaaGreat.Ev
