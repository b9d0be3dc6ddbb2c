/-
  What a session sends that is made of numbers; plain.
-/
import Derived.Test.YtachglcffimmeaaGreatR35
import Derived.Test.YtachglcffimmeaaGreatR36
set_option linter.unusedVariables false
set_option linter.unusedSimpArgs false
set_option maxRecDepth 1000000
namespace Go.Proofs.YtachglcffimmeaaGreat.Ev
open Go Go.Proofs Go.RowKit
structure GdV (v:Vl):Prop where
 m:mvB v.k v.i v.f=true
 r:rgV v
 f:fV v=true
structure GdM (m:Ms):Prop where
 may:mayM m=true
 fit:fitM m=true
 vr: ∀v∈m.vs,rgV v
 br:rgV m.bd
 len:(pmV m).length≤200
theorem GdM.take{m:Ms}(h:GdM m):e2_ (pmV m)=some (cnM m):=ahA_ h.may h.fit h.vr h.br h.len
theorem GdM.put{m:Ms}(h:GdM m):putQ m=pmV m:=by
 obtain⟨f1,f2⟩:=add_ h.fit
 rw[aii_ f1 f2]
 unfold pmL
 rw[h.may,decide_eq_false (show¬Int.ofNat (pmV m).length>200 by rw[Int.ofNat_eq_natCast];have:=h.len;omega)];rfl
theorem GdM.frame{m:Ms}(h:GdM m):frL m=c4_ (pmV m):=by
 unfold frL putL
 rw[h.put,if_neg (by have:=h.len;omega)]
theorem aeF_(v:Vl):h3_ (cnV v) v=true:=by
 have:h6_ (bitsN v.f) v.f=true:=decide_eq_true (m3_ v.f)
 unfold h3_ cnV
 simp[this]
theorem aeE_(l:List Vl):d5_ (l.map cnV) l=true:=by
 unfold d5_
 rw[Bool.and_eq_true]
 refine⟨decide_eq_true (List.length_map ..),?_⟩
 rw[List.all_eq_true]
 intro i hi
 have hi:i<l.length:=by simpa using hi
 have e1:(l.map cnV).getD i Enc.dflt=cnV (l.getD i Enc.dflt):=by simp[List.getD,hi]
 rw[e1]
 exact aeF_ _
theorem ahN_(m:Ms):c2_ (cnM m) m=true:=by
 have h1:h6_ (bitsN m.bd.f) m.bd.f=true:=decide_eq_true (m3_ m.bd.f)
 have h2:=aeE_ m.vs
 have h3:=g5_ m.ps
 unfold c2_
 show cond (m.k !=m.k) false (cond (m.id !=m.id) false (cond (m.er !=m.er) false (cond (m.n !=m.n) false (cond (m.sq !=m.sq) false (cond (!(m.lo==m.lo)) false (cond (m.ev !=m.ev) false
  (cond (m.bd.k==m.bd.k) (cond (m.bd.i==m.bd.i) (cond (!(h6_ (bitsN m.bd.f) m.bd.f)) false (cond (!(d5_ (m.vs.map cnV) m.vs)) false (cond (Int.ofNat m.ps.length !=Int.ofNat m.ps.length) false (o0_ m.ps m.ps)))) false) false)))))))=true
 rw[h1,h2,h3]
 simp
theorem aaD_{x:Int}(h0:0≤x)(h1:x≤65535):insB x=true:=by
 unfold insB
 rw[decide_eq_true (show x≥0 from h0),decide_eq_true h1];rfl
theorem anV_{k id er n sq:Int}{lo:Bool}{v:Vl}(hi:insB id=true)(hn:insB n=true)(hs:insB sq=true)(he:er=0)(hv:GdV v):tlQ ⟨k,id,er,n,sq,lo,0,⟨0,0,0⟩,[],1,[v],0⟩=true:=by
 subst he
 have f1: ∀u∈(⟨k,id,0,n,sq,lo,0,⟨0,0,0⟩,[],1,[v],0⟩:Ms).vs,u.k≠5→u.f=0:=fun u hu=>by
  have hu:u∈[v]:=hu
  rw[List.mem_singleton]at hu
  subst hu
  exact(X3_ hv.f).1
 rw[S7_ f1 (fun _=>rfl)]
 have hvo:vOkB ⟨k,id,0,n,sq,lo,0,⟨0,0,0⟩,[],1,[v],0⟩=true:=by
  show(mvB v.k v.i v.f&&true)=true
  rw[hv.m];rfl
 rw[hvo]
 show(insB id&&insB n&&insB sq&&true&&true&&true&&true&&true&&true&&true)=true
 rw[hi,hn,hs];rfl
theorem abI_{k id er n sq:Int}{lo:Bool}{v:Vl}:(pmV ⟨k,id,er,n,sq,lo,0,⟨0,0,0⟩,[],1,[v],0⟩).length≤200:=by
 have h1:=(s3_ v).1
 have:pmV ⟨k,id,er,n,sq,lo,0,⟨0,0,0⟩,[],1,[v],0⟩=hdM ⟨k,id,er,n,sq,lo,0,⟨0,0,0⟩,[],1,[v],0⟩++([⟨IntKind.wrap .u8 1⟩]++pvL v):=by
  unfold pmV pmP
  show((_++[])++_)++(pvL v++[])=_
  rw[List.append_nil,List.append_nil,List.append_assoc];rfl
 rw[this,List.length_append,afY_]
 have h2:(bdL (⟨0,0,0⟩:Vl)).length=1:=rfl
 show 18+(bdL (⟨0,0,0⟩:Vl)).length+([(⟨IntKind.wrap .u8 1⟩:U8)]++pvL v).length≤200
 rw[h2,List.length_append]
 show 18+1+(1+(pvL v).length)≤200
 omega
theorem acg_{k id er n sq:Int}{lo:Bool}{v:Vl}(hv:GdV v):fitM ⟨k,id,er,n,sq,lo,0,⟨0,0,0⟩,[],1,[v],0⟩=true:=by
 show((fV v&&true)&&true)=true
 rw[hv.f];rfl
theorem aoP_{id:Int}{v:Vl}(h0:0≤id)(h1:id≤65535)(hv:GdV v):GdM ⟨6,id,0,0,0,false,0,⟨0,0,0⟩,[],1,[v],0⟩:=by
 refine⟨?_,acg_ hv,fun u hu=> ?_,⟨by show(-9223372036854775808:Int)≤0;omega,by show(0:Int)<_;omega⟩,abI_⟩
 ·obtain⟨f1,f2⟩:=add_ (acg_ (k:=6) (id:=id) (er:=0) (n:=0) (sq:=0) (lo:=false) hv)
  rw[x2_ f1 f2,sm6 rfl,anV_ (aaD_ h0 h1) rfl rfl rfl hv];rfl
 ·have hu:u∈[v]:=hu
  rw[List.mem_singleton]at hu
  subst hu
  exact hv.r
theorem alH_{nu sq:Int}{lo:Bool}{v:Vl}(h0:0≤nu)(h1:nu≤65535)(h2:0≤sq)(h3:sq≤65535)(hv:GdV v):GdM ⟨7,0,0,nu,sq,lo,0,⟨0,0,0⟩,[],1,[v],0⟩:=by
 refine⟨?_,acg_ hv,fun u hu=> ?_,⟨by show(-9223372036854775808:Int)≤0;omega,by show(0:Int)<_;omega⟩,abI_⟩
 ·obtain⟨f1,f2⟩:=add_ (acg_ (k:=7) (id:=0) (er:=0) (n:=nu) (sq:=sq) (lo:=lo) hv)
  rw[x2_ f1 f2,sm7 rfl,anV_ rfl (aaD_ h0 h1) (aaD_ h2 h3) rfl hv];rfl
 ·have hu:u∈[v]:=hu
  rw[List.mem_singleton]at hu
  subst hu
  exact hv.r
theorem G3_{α:Type}(l:List α)(d:α)(i:Nat):l.getD i d∈d::l:=by
 by_cases h:i<l.length
 ·have:l.getD i d=l[i]:=by simp[List.getD,h]
  rw[this];exact List.mem_cons_of_mem _ (List.getElem_mem h)
 ·have:l.getD i d=d:=by simp[List.getD,h]
  rw[this];exact List.mem_cons_self
theorem abf_: ∀x∈(0::r7_:List Int),-9223372036854775808≤x∧x<9223372036854775808:=by decide
theorem alo_: ∀x∈(0::U0_:List Nat),x<18446744073709551616:=by decide
theorem fV0(k i:Int):fV ⟨k,i,0⟩=true:=by
 show(_||true)=true
 rw[Bool.or_true]
theorem aca_{k x:Int}(hk:k=2∨k=3∨k=4)(h1: -9223372036854775808≤x)(h2:x<9223372036854775808):GdV ⟨k,wrF k x,0⟩:=by
 refine⟨?_,?_,fV0 _ _⟩
 ·rcases hk with rfl|rfl|rfl
  ·show(true&&true&&true&&(IntKind.wrap .i16 (IntKind.wrap .i16 x)==IntKind.wrap .i16 x))=true
   have:IntKind.wrap .i16 (IntKind.wrap .i16 x)=IntKind.wrap .i16 x:=by
    unfold IntKind.wrap
    simp[IntKind.signed,IntKind.bits]
    omega
   rw[this];simp
  ·show(true&&true&&true&&(IntKind.wrap .i32 (IntKind.wrap .i32 x)==IntKind.wrap .i32 x))=true
   have:IntKind.wrap .i32 (IntKind.wrap .i32 x)=IntKind.wrap .i32 x:=by
    unfold IntKind.wrap
    simp[IntKind.signed,IntKind.bits]
    omega
   rw[this];simp
  ·show(true&&true&&true&&(x==x))=true
   simp
 ·rcases hk with rfl|rfl|rfl
  ·show-9223372036854775808≤IntKind.wrap .i16 x∧IntKind.wrap .i16 x<9223372036854775808
   unfold IntKind.wrap
   simp[IntKind.signed,IntKind.bits]
   omega
  ·show-9223372036854775808≤IntKind.wrap .i32 x∧IntKind.wrap .i32 x<9223372036854775808
   unfold IntKind.wrap
   simp[IntKind.signed,IntKind.bits]
   omega
  ·exact⟨h1,h2⟩
theorem aoG_{l:List U8}{n k:Int}(hp:PkOk l n)(h1:1≤k)(h5:k≤5):GdV (pvF l n k).1:=by
 unfold pvF
 cases hk1:k==1 with
 |true=>
  obtain⟨a,b,_⟩:=nF_ (m:=2) hp (by omega)
  have hx:(numF l n 2).1=0∨(numF l n 2).1=1:=by omega
  show GdV ⟨1,(numF l n 2).1,0⟩
  rcases hx with hx|hx
  ·rw[hx];exact⟨rfl,⟨by show(-9223372036854775808:Int)≤0;omega,by show(0:Int)<_;omega⟩,fV0 _ _⟩
  ·rw[hx];exact⟨rfl,⟨by show(-9223372036854775808:Int)≤1;omega,by show(1:Int)<_;omega⟩,fV0 _ _⟩
 |false=>
 cases hk5:k==5 with
 |true=>
  show GdV ⟨5,0,(U1_ l n).1⟩
  refine⟨rfl,⟨by show(-9223372036854775808:Int)≤0;omega,by show(0:Int)<_;omega⟩,?_⟩
  have:=alo_ _ (G3_ U0_ 0 (numF l n 15).1.toNat)
  show(true&&Nat.blt (U0_.getD (numF l n 15).1.toNat 0) 18446744073709551616||_)=true
  have hb:Nat.blt (U0_.getD (numF l n 15).1.toNat 0) 18446744073709551616=true:=Nat.ble_eq_true_of_le this
  rw[hb];rfl
 |false=>
  have h1':k≠1:=by simpa using hk1
  have h5':k≠5:=by simpa using hk5
  obtain⟨a,b⟩:=abf_ _ (G3_ r7_ 0 (numF l n 13).1.toNat)
  exact aca_ (by omega) a b
structure GdW (w:Wt):Prop where
 n0:1≤w.nu
 n1:w.nu≤1000
 q1:w.qu.length≤1
 it: ∀x∈w.qu,x.sq=1∧GdV x.v
theorem GdW.note{w:Wt}(h:GdW w)(hq:nxE w=false):GdM (o6_ w)∧(nxI w).sq=1:=by
 have hl:0<w.qu.length:=by
  unfold nxE at hq
  have: ¬(Int.ofNat w.qu.length=0):=by simpa using hq
  rw[Int.ofNat_eq_natCast]at this
  omega
 have hm:nxI w∈w.qu:=by
  have:nxI w=w.qu[0]:=by unfold nxI;simp[List.getD,List.getElem?_eq_getElem hl]
  rw[this];exact List.getElem_mem hl
 obtain⟨h1,h2⟩:=h.it _ hm
 refine⟨?_,h1⟩
 have h0:=h.n0
 have h3:=h.n1
 exact alH_ (by omega) (by omega) (by omega) (by omega) h2
theorem GdW.fit{w:Wt}(h:GdW w):fitM (o6_ w)=true:=by
 cases hq:nxE w with
 |false=>exact(h.note hq).1.fit
 |true=>
  have h0:w.qu=[]:=by
   have:Int.ofNat w.qu.length=0:=eq_of_beq hq
   rw[Int.ofNat_eq_natCast]at this
   exact List.length_eq_zero_iff.1 (by omega)
  have:nxI w=Enc.dflt:=by unfold nxI;rw[h0];rfl
  unfold o6_
  rw[this];rfl
theorem GdW.next{w:Wt}(h:GdW w):GdW (nxW w)∧(nxW w).qu=[]:=by
 have ht:(nxW w).qu=[]:=by
  show w.qu.tail=[]
  have:=h.q1
  match hq:w.qu,this with
  |[],_=>rfl
  |[_],_=>rfl
 exact⟨⟨h.n0,h.n1,by rw[ht];exact Nat.zero_le _,by rw[ht];intro x hx;cases hx⟩,ht⟩
theorem adF_{l:List U8}: ∀(k:Nat) (n:Int) (w:Wt),GdW w→(w.ha=false→w.lo=false)→GdW (wkL l k n w).1∧(wkL l k n w).1.nu=w.nu
 |0,n,w,h,hl=>⟨h,rfl⟩
 |k+1,n,w,h,hl=>by
  show GdW (wkL l k _ (cond w.ha w _)).1∧(wkL l k _ (cond w.ha w _)).1.nu=w.nu
  cases hw:w.ha with
  |true=>exact adF_ k _ w h hl
  |false=>
   obtain⟨a,b⟩:=abf_ _ (G3_ r7_ 0 (numF l n 13).1.toNat)
   have hv:GdV ⟨2,viK l n,0⟩:=aca_ (.inl rfl) a b
   exact adF_ k _ _ ⟨h.n0,h.n1,Nat.le_refl 1,fun x hx=>by
    have hx:x∈[(⟨1,⟨2,viK l n,0⟩,false⟩:Im)]:=hx
    rw[List.mem_singleton]at hx
    subst hx
    exact⟨rfl,hv⟩⟩ (fun _=>rfl)
theorem anY_{l:List U8}{i n:Int}(h1:1≤i)(h2:i≤1000):GdW (suC l i n).1∧(suC l i n).1.nu=i:=
 adF_ _ _ _ ⟨h1,h2,Nat.zero_le _,fun x hx=>by cases hx⟩ (fun _=>rfl)
theorem ajI_{l:List U8}: ∀(r:Nat) (n:Int) (x:List Wt),r≤1000→(∀w∈x,GdW w∧(r:Int)<w.nu)→(x.map Wt.nu).Nodup→(∀w∈(suL l r n x).1,GdW w)∧((suL l r n x).1.map Wt.nu).Nodup
 |0,n,x,hr,h,hn=>⟨fun w hw=>(h w hw).1,hn⟩
 |r+1,n,x,hr,h,hn=>by
  obtain⟨g1,g2⟩:=anY_ (l:=l) (i:=((r+1:Nat):Int)) (n:=n) (by omega) (by omega)
  refine ajI_ r _ _ (by omega) (fun w hw=> ?_) ?_
  ·rcases List.mem_append.1 hw with h3|h3
   ·obtain⟨a,b⟩:=h w h3
    exact⟨a,by omega⟩
   ·rw[List.mem_singleton]at h3
    subst h3
    exact⟨g1,by rw[g2];omega⟩
  ·rw[List.map_append,List.nodup_append]
   refine⟨hn,by simp,fun a ha b hb=> ?_⟩
   obtain⟨w,hw,rfl⟩:=List.mem_map.1 ha
   have hb:b∈[(suC l ((r+1:Nat):Int) n).1.nu]:=hb
   rw[List.mem_singleton]at hb
   rw[hb,g2]
   have:=(h w hw).2
   omega
theorem ajT_{l:List U8}: ∀(r:Nat) (n:Int) (x:List Ms),r≤1000→PkOk l n→(∀m∈x,GdM m)→ ∀m∈(ouL l r n x).1,GdM m
 |0,n,x,hr,hp,h=>h
 |r+1,n,x,hr,hp,h=>by
  refine ajT_ r _ _ (by omega) (acv_ hp) fun m hm=> ?_
  rcases List.mem_append.1 hm with h3|h3
  ·exact h m h3
  ·rw[List.mem_singleton]at h3
   subst h3
   obtain⟨a,b,p2⟩:=nF_ (m:=5) hp (by omega)
   exact aoP_ (by omega) (by omega) (aoG_ p2 (by omega) (by omega))
structure GdO (s:Ss):Prop where
 gd:GdS s
 out: ∀m∈s.out,GdM m
 sub: ∀w∈s.sub,GdW w
 nu:(s.sub.map Wt.nu).Nodup
theorem alZ_{l:List U8}(h1:l.all (okA U8)=true)(h2:l.length≤1000000):GdO (n1_ l)∧(n1_ l).out.length≤3∧(n1_ l).sub.length≤4:=by
 have hp0:PkOk l 0:=⟨h1,h2,Int.le_refl _⟩
 obtain⟨s0,s1,p1⟩:=nF_ (m:=9) hp0 (by omega)
 obtain⟨i0,i1,p2⟩:=nF_ (m:=4) p1 (by omega)
 have p3:PkOk l (inP l).2:=abV_ _ _ _ p2
 obtain⟨o0,o1,p4⟩:=nF_ (m:=3) p3 (by omega)
 obtain⟨b1,b2⟩:=aav_ (o0P l).1.toNat (o0P l).2 [] p4 rfl
 have p5:PkOk l (ouP l).2:=abJ_ _ _ _ p4
 obtain⟨u0,u1,p6⟩:=nF_ (m:=4) p5 (by omega)
 obtain⟨c1,c2⟩:=aae_ (s0P l).1.toNat (s0P l).2 [] p6 rfl
 have b2:(ouP l).1.length=0+(o0P l).1.toNat:=b2
 have c2:(suP l).1.length=0+(s0P l).1.toNat:=c2
 have o1:(o0P l).1<3:=o1
 have u1:(s0P l).1<4:=u1
 obtain⟨g1,g2⟩:=ajI_ (l:=l) (s0P l).1.toNat (s0P l).2 [] (by omega) (fun w hw=>by cases hw) List.nodup_nil
 exact⟨⟨ama_ h1 h2,ajT_ (o0P l).1.toNat (o0P l).2 [] (by omega) p4 (fun m hm=>by cases hm),g1,g2⟩,by show(ouP l).1.length≤3;omega,by show(suP l).1.length≤4;omega⟩
theorem GdO.okSd{s:Ss}(h:GdO s):okSd s=true:=by
 unfold Ev.okSd
 rw[h.gd.fitS,Bool.true_and,Bool.and_eq_true,List.all_eq_true,List.all_eq_true]
 exact⟨fun m hm=>(h.out m hm).fit,fun w hw=>(h.sub w hw).fit⟩
def totW(l:List Wt):Nat:=(l.map fun w=>w.qu.length).sum
def totS(s:Ss):Nat:=s.out.length+totW s.sub
theorem abl_: ∀(l:List Wt) (i:Nat) (hi:i<l.length) (w:Wt),totW (l.set i w)+(l[i]'hi).qu.length=totW l+w.qu.length
 |a::l,0,hi,w=>by
  show w.qu.length+totW l+a.qu.length=a.qu.length+totW l+w.qu.length
  omega
 |a::l,i+1,hi,w=>by
  have hi2:i<l.length:=Nat.lt_of_succ_lt_succ hi
  have:=abl_ l i hi2 w
  show a.qu.length+totW (l.set i w)+(l[i]'hi2).qu.length=a.qu.length+totW l+w.qu.length
  omega
theorem N0_{s:Ss}(h:sdI s<s.sub.length):sdW s=s.sub[sdI s]∧nxE (sdW s)=false:=by
 have e:sdW s=s.sub[sdI s]:=by unfold sdW;simp[List.getD,h]
 refine⟨e,?_⟩
 rw[e]
 have:=List.findIdx_getElem (w:=h)
 have:(!nxE s.sub[sdI s])=true:=this
 simpa using this
theorem ahL_{s:Ss}(h: ¬sdI s<s.sub.length): ∀w∈s.sub,nxE w=true:=by
 have hle:sdI s≤s.sub.length:=List.findIdx_le_length
 have:s.sub.findIdx (fun w=> !nxE w)=s.sub.length:=by
  show sdI s=_
  omega
 rw[List.findIdx_eq_length]at this
 intro w hw
 simpa using this w hw
theorem totW_zero{l:List Wt}(h: ∀w∈l,nxE w=true):totW l=0:=by
 induction l with
 |nil=>rfl
 |cons a l ih=>
  have h1:=h a List.mem_cons_self
  have:Int.ofNat a.qu.length=0:=eq_of_beq h1
  rw[Int.ofNat_eq_natCast]at this
  show a.qu.length+totW l=0
  rw[ih fun w hw=>h w (List.mem_cons_of_mem _ hw)]
  omega
theorem alD_{l:List Wt}(h:l.all (okA Wt)=true)(i:Nat){w:Wt}(hw:okA Wt w=true):(l.set i w).all (okA Wt)=true:=by
 rw[List.all_eq_true]at*
 intro x hx
 rcases List.mem_or_eq_of_mem_set hx with h1|h1
 ·exact h x h1
 ·rw[h1];exact hw
def LsO(s:Ss)(es:List (Value×Value)):Prop:= ∀w∈s.sub,nxE w=false→intV (getK (.int .i64 w.nu) (.int .i64 0) es)=0
theorem aez_{s:Ss}(h:sdO s=true):g4_ s=⟨s.on,s.se,s.fb,s.cfb,s.ba,s.ins,1,s.out.tail,0,s.sub,s.csub,s.num⟩:=by rw[t7_];unfold aag_;rw[h];rfl
theorem T3_{s:Ss}(h:sdO s=false):g4_ s=⟨s.on,s.se,s.fb,s.cfb,s.ba,s.ins,1,s.out.tail,1,s.sub.set (sdI s) (nxW (sdW s)),s.csub,s.num⟩:=by rw[t7_];unfold aag_;rw[h];rfl
theorem aai_(s:Ss):(sdO s=true↔s.out≠[]):=by
 unfold sdO
 rw[decide_eq_true_eq,Int.ofNat_eq_natCast]
 cases s.out with
 |nil=>simp
 |cons a l=>simp
theorem akY_{s:Ss}(h:GdO s)(ht:0<totS s):GdO (g4_ s)∧totS (g4_ s)+1=totS s∧ ∃m,GdM m∧k5_ s=frL m∧(s.out≠[]→m=s.out.getD 0 Enc.dflt∧(g4_ s).out.length+1=s.out.length∧(g4_ s).sub=s.sub)∧(s.out=[]→m=o6_ (sdW s)∧nxE (sdW s)=false∧sdI s<s.sub.length∧(g4_ s).sub=s.sub.set (sdI s) (nxW (sdW s))):=by
 obtain⟨g1,g2,g3,g4,g5,g6,g7,g8,g9,g10,g11,g12⟩:=g6_ (x:=s) h.gd.ok
 cases ho:sdO s with
 |true=>
  have hne:=(aai_ s).1 ho
  have hlen:0<s.out.length:=List.length_pos_iff.2 hne
  have hm:s.out.getD 0 Enc.dflt∈s.out:=by
   have:s.out.getD 0 Enc.dflt=s.out[0]:=by simp[List.getD,List.getElem?_eq_getElem hlen]
   rw[this];exact List.getElem_mem hlen
  have hl:s.out.tail.length=s.out.length-1:=List.length_tail
  have hB:k5_ s=frL (s.out.getD 0 Enc.dflt):=by unfold k5_;rw[ho];rfl
  rw[aez_ ho,hB]
  refine⟨⟨⟨?_,h.gd.fb,h.gd.ins,by show s.out.tail.length≤1000;have:=h.gd.out;omega,h.gd.sub⟩,fun m hm=>h.out m (List.mem_of_mem_tail hm),h.sub,h.nu⟩,?_,_,h.out _ hm,rfl,fun _=>⟨rfl,by show s.out.tail.length+1=_;omega,rfl⟩,fun h=>absurd h hne⟩
  ·exact W0_ g1 g2 g3 g4 g5 (Nat.le_refl _) (by rw[List.all_eq_true]at*;exact fun x hx=>g7 x (List.mem_of_mem_tail hx)) (by show s.out.tail.length≤_;omega) (Nat.zero_le _) g10 g11 g12
  ·show s.out.tail.length+totW s.sub+1=s.out.length+totW s.sub
   omega
 |false=>
  have hout:s.out=[]:=by
   cases ho2:s.out with
   |nil=>rfl
   |cons a l=>
    have:=(aai_ s).2 (by rw[ho2];simp)
    rw[ho]at this;cases this
  have hlt:sdI s<s.sub.length:=by
   cases Nat.lt_or_ge (sdI s) s.sub.length with
   |inl h=>exact h
   |inr hge=>
    have h0:=totW_zero (ahL_ (s:=s) (by omega))
    have:totS s=0:=by unfold totS;rw[hout,h0];rfl
    omega
  obtain⟨e1,e2⟩:=N0_ hlt
  have hmw:sdW s∈s.sub:=by rw[e1];exact List.getElem_mem hlt
  have gw:=h.sub _ hmw
  obtain⟨n1,n2⟩:=gw.next
  obtain⟨m1,m2⟩:=gw.note e2
  have hokw:okA Wt (sdW s)=true:=List.all_eq_true.1 g10 _ hmw
  have hB:k5_ s=frL (o6_ (sdW s)):=by unfold k5_;rw[ho,decide_eq_true hlt];rfl
  rw[T3_ ho,hB,hout]
  have hset:(s.sub.set (sdI s) (nxW (sdW s))).length=s.sub.length:=List.length_set
  have hqe:(sdW s).qu.length=1:=by
   have h1:=gw.q1
   have: ¬(Int.ofNat (sdW s).qu.length=0):=by
    have h2:(Int.ofNat (sdW s).qu.length==0)=false:=e2
    simpa using h2
   rw[Int.ofNat_eq_natCast]at this
   omega
  refine⟨⟨⟨?_,h.gd.fb,h.gd.ins,Nat.zero_le _,by show(s.sub.set _ _).length≤1000;rw[hset];exact h.gd.sub⟩,fun m hm=>(by cases hm),fun w hw=> ?_,?_⟩,?_,_,m1,rfl,fun h=>absurd rfl h,fun _=>⟨rfl,e2,hlt,rfl⟩⟩
  ·have hc:okA Wt (nxW (sdW s))=true:=by
    obtain⟨a1,a2,a3⟩:=r0_ hokw
    refine afq_ (akl_ _) ?_ ?_
    ·rw[n2];exact Nat.zero_le _
    ·show cond (nxE (sdW s)) _ 0≤1
     rw[e2];exact Nat.zero_le _
   exact W0_ g1 g2 g3 g4 g5 (Nat.le_refl _) rfl (Nat.zero_le _) (Nat.le_refl _) (alD_ g10 _ hc) (by show(s.sub.set _ _).length≤_;rw[hset];exact g11) g12
  ·rcases List.mem_or_eq_of_mem_set hw with h1|h1
   ·exact h.sub w h1
   ·rw[h1];exact n1
  ·have:(s.sub.set (sdI s) (nxW (sdW s))).map Wt.nu=s.sub.map Wt.nu:=by
    rw[List.map_set]
    have hnu:(nxW (sdW s)).nu=(s.sub.map Wt.nu)[sdI s]'(by rw[List.length_map];exact hlt):=by
     rw[List.getElem_map,←e1];rfl
    rw[hnu,List.set_getElem_self]
   show((s.sub.set (sdI s) (nxW (sdW s))).map Wt.nu).Nodup
   rw[this];exact h.nu
  ·have:=abl_ s.sub (sdI s) hlt (nxW (sdW s))
   rw[←e1,hqe,n2]at this
   show 0+totW (s.sub.set (sdI s) (nxW (sdW s)))+1=totS s
   unfold totS
   rw[hout]
   show _=0+totW s.sub
   have h0:([]:List Im).length=0:=rfl
   omega
theorem aoa_{s:Ss}(h:GdO s)(ht:totS s=0):k5_ s=[]∧cz (g4_ s)=cz s∧GdO (g4_ s):=by
 have hout:s.out=[]:=List.length_eq_zero_iff.1 (by unfold totS at ht;omega)
 have hz: ∀w∈s.sub,nxE w=true:=fun w hw=>by
  have ht:totW s.sub=0:=by unfold totS at ht;omega
  clear h hout
  generalize s.sub=l at*
  induction l with
  |nil=>cases hw
  |cons a l ih=>
   have h1:a.qu.length+totW l=0:=ht
   rcases List.mem_cons.1 hw with rfl|h2
   ·unfold nxE
    have:w.qu.length=0:=by omega
    rw[this];rfl
   ·exact ih h2 (by omega)
 have ho:sdO s=false:=by
  cases ho:sdO s with
  |false=>rfl
  |true=>exact absurd hout ((aai_ s).1 ho)
 have hI:sdI s=s.sub.length:=by
  unfold sdI
  rw[List.findIdx_eq_length]
  intro w hw
  rw[hz w hw];rfl
 have hS:g4_ s=⟨s.on,s.se,s.fb,s.cfb,s.ba,s.ins,1,s.out,1,s.sub,s.csub,s.num⟩:=by
  rw[T3_ ho,hI,List.set_eq_of_length_le (Nat.le_refl _),hout];rfl
 refine⟨by unfold k5_;rw[ho,hI,decide_eq_false (Nat.lt_irrefl _)];rfl,by rw[hS];rfl,?_⟩
 rw[hS]
 obtain⟨g1,g2,g3,g4,g5,g6,g7,g8,g9,g10,g11,g12⟩:=g6_ (x:=s) h.gd.ok
 exact⟨⟨W0_ g1 g2 g3 g4 g5 (Nat.le_refl _) g7 g8 (Nat.le_refl _) g10 g11 g12,h.gd.fb,h.gd.ins,h.gd.out,h.gd.sub⟩,h.out,h.sub,h.nu⟩
theorem abZ_(a b:Int)(z v:Value): ∀es:List (Value×Value),(∀p∈es,∃c:Int,p.1= .int .i64 c)→getK (.int .i64 a) z (putK (.int .i64 b) v es)=cond (a==b) v (getK (.int .i64 a) z es)
 |[],_=>rfl
 |(k,x)::es,h=>by
  obtain⟨c,hc⟩:=h (k,x) List.mem_cons_self
  have hc:k= .int .i64 c:=hc
  subst hc
  have ih:=abZ_ a b z v es fun p hp=>h p (List.mem_cons_of_mem _ hp)
  show getK (.int .i64 a) z (cond (b==c) ((.int .i64 b,v)::es) ((.int .i64 c,x)::putK (.int .i64 b) v es))=cond (a==b) v (cond (a==c) x (getK (.int .i64 a) z es))
  cases hbc:b==c with
  |true=>
   have:=eq_of_beq hbc
   subst this
   show cond (a==b) v (getK (.int .i64 a) z es)=_
   cases a==b<;>rfl
  |false=>
   show cond (a==c) x (getK (.int .i64 a) z (putK (.int .i64 b) v es))=_
   rw[ih]
   cases hac:a==c with
   |false=>rfl
   |true=>
    have:=eq_of_beq hac
    subst this
    have:(a==b)=false:=by
     rw[Bool.eq_false_iff]
     intro h
     have:=eq_of_beq h
     subst this
     simp at hbc
    rw[this];rfl
theorem U4_{b:Int}{v:Value}: ∀{es:List (Value×Value)},(∀p∈es,∃c:Int,p.1= .int .i64 c)→ ∀p∈putK (.int .i64 b) v es,∃c:Int,p.1= .int .i64 c
 |[],h,p,hp=>by
  have hp:p∈[((.int .i64 b:Value),v)]:=hp
  rw[List.mem_singleton]at hp
  subst hp
  exact⟨b,rfl⟩
 |q::es,h,p,hp=>by
  have hp:p∈cond (keyB (.int .i64 b) q.1) ((.int .i64 b,v)::es) (q::putK (.int .i64 b) v es):=hp
  cases hk:keyB (.int .i64 b) q.1 with
  |true=>
   rw[hk]at hp
   rcases List.mem_cons.1 hp with rfl|h1
   ·exact⟨b,rfl⟩
   ·exact h p (List.mem_cons_of_mem _ h1)
  |false=>
   rw[hk]at hp
   rcases List.mem_cons.1 hp with rfl|h1
   ·exact h _ List.mem_cons_self
   ·exact U4_ (fun p hp=>h p (List.mem_cons_of_mem _ hp)) p h1
theorem amc_{s:Ss}{es:List (Value×Value)}{q:Int}(h:GdO s)(hk: ∀p∈es,∃c:Int,p.1= .int .i64 c)(hL:LsO s es)(hlt:sdI s<s.sub.length){t:Ss}(ht:t.sub=s.sub.set (sdI s) (nxW (sdW s))):LsO t (putK (.int .i64 (sdW s).nu) (.int .i64 q) es):=by
 obtain⟨e1,e2⟩:=N0_ hlt
 intro w hw hq
 rw[ht]at hw
 obtain⟨j,hj,rfl⟩:=List.getElem_of_mem hw
 have hj':j<s.sub.length:=by simpa using hj
 rw[abZ_ _ _ _ _ _ hk]
 by_cases hji:j=sdI s
 ·subst hji
  rw[List.getElem_set_self]at hq
  have hm:sdW s∈s.sub:=by rw[e1];exact List.getElem_mem hlt
  have:=(h.sub _ hm).next.2
  unfold nxE at hq
  rw[this]at hq
  cases hq
 ·rw[List.getElem_set_ne (fun h=>hji h.symm)]at hq ⊢
  have hne:(s.sub[j].nu==(sdW s).nu)=false:=by
   rw[Bool.eq_false_iff]
   intro hb
   have hb:=eq_of_beq hb
   rw[e1]at hb
   have hn:=h.nu
   have:=(List.getElem_inj (xs:=s.sub.map Wt.nu) (h₀:=by rw[List.length_map];exact hj') (h₁:=by rw[List.length_map];exact hlt) hn).1 (by rw[List.getElem_map,List.getElem_map];exact hb)
   exact hji this
  rw[hne]
  exact hL _ (List.getElem_mem hj') hq
theorem aqb_(l:List U8)(c:Nat):lQ l c=l:=s4_ l c
theorem all_(s:Ss):sD s=s:=by
 unfold sD
 simp only[Nat.zero_add]
 exact(dE_ s).1
theorem aoX_(s:Ss):xD s=g4_ s:=by unfold xD;rw[all_]
theorem aoO_(s:Ss):bD s=k5_ s:=by unfold bD;rw[all_]
theorem aoB_(s:Ss):lD s=k5_ s:=by unfold lD;rw[aoO_];exact s4_ _ _
theorem anX_(s:Ss):tD s=e2_ (tkL (k5_ s)):=by
 unfold tD
 rw[aoB_]
 congr 1
 exact s4_ _ _
theorem aqi_(x:Ss):(Enc.dec (nthT [Td.sc (.bool x.on),Td.sc (.int .i64 x.se),Td.fr 1 x.fb.length x.cfb fun i=>encL x.fb i,Td.sc (.bool x.ba),Td.fr 12 x.ins.length x.cins fun i=>encL x.ins i,Td.fr 12 x.out.length x.cout fun i=>encL x.out i,Td.fr 15 x.sub.length x.csub fun i=>encL x.sub i,Td.sc (.int .i64 x.num)]):Ss)=x:=(dE_ x).1
theorem aqj_(m:Ms):(Enc.dec (nthT [Td.sc (.int .i64 m.k),Td.sc (.int .i64 m.id),Td.sc (.int .i64 m.er),Td.sc (.int .i64 m.n),Td.sc (.int .i64 m.sq),Td.sc (.bool m.lo),Td.sc (.int .i64 m.ev),Td.sc (.int .i64 m.bd.k),Td.sc (.int .i64 m.bd.i),Td.sc (.float .f64 m.bd.f),Td.fr 1 m.ps.length m.cps fun i=>encL m.ps i,Td.fr 3 m.vs.length m.cvs fun i=>encL m.vs i]):Ms)=m:=(dE_ m).1
theorem aot_{a b:Ms}(ha:okA Ms a=true)(hb:okA Ms b=true):okS2 Ms (fun _ _=>true) [.agg (b1_ a),.agg (b1_ b)]=true:=by
 show(Nat.beq (b1_ a).length (Enc.es Ms)&&Nat.beq (b1_ b).length (Enc.es Ms)&&Enc.ok Ms (nthT (b1_ a))&&Enc.ok Ms (nthT (b1_ b))&&true)=true
 rw[eL_,eL_,Nat.beq_refl,(dE_ a).2,(dE_ b).2,ha,hb];rfl
theorem aqe_{L:List U8}(h:L.length≤200):tkE (c4_ L)=0∧tkL (c4_ L)=L∧tkN (c4_ L)=(c4_ L).length∧tkC (c4_ L)=0:=by
 have e:tkE (c4_ L)=0:=by
  have:=age_ (l:=L) (m:=[]) h
  rw[List.append_nil]at this;exact this
 have hm:midU (c4_ L)=L:=by
  have:=W6_ (l:=L) (m:=[]) h
  rw[List.append_nil]at this;exact this
 have hl:lenU (c4_ L)=L.length:=by
  have:=x4_ (l:=L) (m:=[]) h
  rw[List.append_nil]at this;exact this
 unfold tkL tkN tkC
 rw[if_pos e,if_pos e,if_pos e,hm,hl,l8_]
 exact⟨e,rfl,rfl,rfl⟩
def nO(s:Ss)(k:Nat):Nat:=s.out.length+totW (s.sub.take k)
theorem abm_: ∀(l m:List Wt),totW (l++m)=totW l+totW m
 |[],m=>by show totW m=0+totW m;omega
 |a::l,m=>by
  have:=abm_ l m
  show a.qu.length+totW (l++m)=a.qu.length+totW l+totW m
  omega
theorem aaa_: ∀(l:List Wt),(∀w∈l,GdW w)→totW l≤l.length
 |[],h=>Nat.le_refl _
 |a::l,h=>by
  have h1:=(h a List.mem_cons_self).q1
  have h2:=aaa_ l fun w hw=>h w (List.mem_cons_of_mem _ hw)
  show a.qu.length+totW l≤l.length+1
  omega
theorem alL_{s:Ss}{k:Nat}(h:k<s.sub.length):nO s (k+1)=nO s k+(s.sub.getD k Enc.dflt).qu.length:=by
 unfold nO
 rw[M6_ Enc.dflt h,abm_]
 show _+(_+((s.sub.getD k Enc.dflt).qu.length+0))=_
 omega
theorem cLO{P:Program}{β:Bs}{ex:Nat→Kt→Prop}{b:Nat}{c:Code}{N:Nat}{F:Nat→AFr}{S:Nat→ASt}{Fx:AFr}{Sx:ASt}
  (hex: ∀K,ex b K→K (.exit b) Fx Sx)
  (hr: ∀(k:Nat) (Nx:Kt),k≤N→(k<N→ ∀f1 st1,Seen β f1 st1 (F (k+1)) (S (k+1))→Nx .normal f1 st1)→(k=N→Nx (.exit b) Fx Sx)→J P β c (F k) (S k) Nx):LoopJ P β ex b c (F 0) (S 0):=by
 refine b2_ (fun k:Nat=>k≤N) F S (fun k=>N-k) (fun k hk K hK=> ?_) 0 (Nat.zero_le _)
 exact hr k _ hk (fun hlt f1 st1 hs=> .inl ⟨rfl,k+1,hlt,by omega,hs⟩) (fun he=> .inr ⟨by simp,by simp,Fx,Sx,Seen.refl _ _ _,hex K hK⟩)
theorem apO_{l:List U8}{s:Ss}{β:Bs}(hβ:β.X.length=1)(hg:GdO s)(h3:s.out.length≤3)(h4:s.sub.length≤4):
  LoopJ Tryz.prog β (exO l s (totS s:Nat)) 0 (a5_ Tryz.prog 3 0) (FO1 (nO s 0:Nat) (0:Nat)) (SO1 l s):=by
 refine cLO (N:=s.sub.length) (F:=fun k=>FO1 (nO s k:Nat) (k:Nat)) (S:=fun _=>SO1 l s) (Fx:=FO1x (totS s:Nat)) (Sx:=SO1 l s) (fun K hK=>hK) (fun k Nx hk h1 h2=> ?_)
 have hg': ∀N:Kt,c0_ Tryz.prog D0_ 100 20 β (fun _=>0) (cnOf 1 lvsO) (fun _ _=>False) 3 0 1 lvO1 (FO1 (nO s k:Nat) (k:Nat)) (SO1 l s) N→J Tryz.prog β (a5_ Tryz.prog 3 0) (FO1 (nO s k:Nat) (k:Nat)) (SO1 l s) N:=fun N h=>rJ_ follows C9_ hβ h
 refine hg' _ ?_
 rw[ahl_]
 try dsimp only
 have e0:Int.toNat (k:Int)=k:=Int.toNat_natCast k
 have hle:nO s k≤100:=by
  have:=aaa_ (s.sub.take k) fun w hw=>hg.sub w (List.mem_of_mem_take hw)
  rw[List.length_take]at this
  unfold nO
  omega
 simp only[e0,Nat.zero_add]
 refine a0_ (fun hlt=> ?_) (fun hlt=> ?_)
 ·have hlt:k<s.sub.length:=by simpa using hlt
  have hw:IntKind.wrap .i64 ((k:Int)+1)=((k+1:Nat):Int):=w64 (by omega) (by omega)
  have hq:(s.sub.getD k Enc.dflt).qu.length≤1:=by
   have:s.sub.getD k Enc.dflt=s.sub[k]:=by simp[List.getD,hlt]
   rw[this];exact(hg.sub _ (List.getElem_mem hlt)).q1
  have hn:IntKind.wrap .i64 (((nO s k:Nat):Int)+Int.ofNat (s.sub.getD k Enc.dflt).qu.length)=((nO s (k+1):Nat):Int):=by
   rw[alL_ hlt,Int.ofNat_eq_natCast,w64 (by omega) (by omega)]
   omega
  have c3:Nat.blt k s.sub.length=true:=by simpa using hlt
  rw[hw,hn]
  exact nd_ (by simp) (nd_ c3 (nd_ (by rw[c3];simp) (h1 hlt _ _ (Seen.refl _ _ _))))
 ·have hkn:k=s.sub.length:=by
   have: ¬k<s.sub.length:=by simpa using hlt
   omega
  have:=h2 hkn
  have e:nO s k=totS s:=by unfold nO totS;rw[hkn,List.take_length]
  rw[e]
  exact this
structure PO where
 i:Nat
 s:Ss
 es:List (Value×Value)
structure IO' (N:Nat) (p:PO):Prop where
 n:p.i+totS p.s=N
 gd:GdO p.s
 ls:LsO p.s p.es
 ks: ∀q∈p.es,∃c:Int,q.1= .int .i64 c
theorem apN_{l:List U8}{s0:Ss}{N:Nat}{β:Bs}(hβ:β.X.length=1)(hN:N≤1000){K:Kt}(hK:K .ret FOr (mkS [some (rowO .still l)]))(p:PO)(hp:IO' N p):
  J Tryz.prog β (a5_ Tryz.prog 3 2) (FO2 (N:Nat) (p.i:Nat)) (SO2 l p.s p.es) (Nn β (IO' N) (fun p=>N+1-p.i) (fun p=>FO2 (N:Nat) (p.i:Nat)) (fun p=>SO2 l p.s p.es) p K):=by
 obtain⟨i,s,es⟩:=p
 obtain⟨h1,h2,h3,h4⟩:=hp
 have h1:i+totS s=N:=h1
 have h2:GdO s:=h2
 have h3:LsO s es:=h3
 have h4: ∀q∈es,∃c:Int,q.1= .int .i64 c:=h4
 have hg': ∀Nx:Kt,c0_ Tryz.prog D0_ 100 20 β (fun _=>0) (cnOf 1 lvsO) (fun _ _=>False) 3 2 1 lvO2 (FO2 (N:Nat) (i:Nat)) (SO2 l s es) Nx→J Tryz.prog β (a5_ Tryz.prog 3 2) (FO2 (N:Nat) (i:Nat)) (SO2 l s es) Nx:=fun Nx h=>rJ_ follows C9_ hβ h
 refine hg' _ ?_
 rw[ahk_]
 try dsimp only
 have hw:IntKind.wrap .i64 ((i:Int)+1)=((i+1:Nat):Int):=w64 (by omega) (by omega)
 have ci:decide ((i:Int)≤(N:Int))=true:=decide_eq_true (by omega)
 simp only[Nat.zero_add,aoB_,aoO_,aoX_,anX_,all_,aqi_,aqj_,hw,ci,br_t]
 refine nd_ (by simp) (nd_ (by simp) (nd_ (by simp) (nd_ (by simp) (nd_ ((x0_ s).trans (by rw[h2.gd.ok,h2.okSd];rfl)) (a0_ (fun hi=> ?_) (fun hi=> ?_))))))
 ·have ht:totS s=0:=by
   have:(i:Int)=(N:Int):=eq_of_beq hi
   omega
  obtain⟨e1,e2,e3⟩:=aoa_ h2 ht
  have hs:=aeG_ (a:=g4_ s) (b:=s) e2
  rw[e1,hs]
  refine a0_ (fun _=>nd_ (by simp) (nd_ (by simp) (nd_ (by simp) (nd_ (by simp) (nd_ (by simp) (nd_ (by simp) (nd_ (by simp) (nd_ (by simp) (nd_ ((afr_ (g4_ s) s).trans (by rw[e3.gd.ok,h2.gd.ok];rfl)) ?_))))))))) (fun h=>by cases h)
  exact Nn.ret (Seen.refl _ _ _) hK
 ·have ht:0<totS s:=by
   have: ¬(i:Int)=(N:Int):=by simpa using hi
   omega
  obtain⟨g1,g2,m,gm,hB,hO,hS⟩:=akY_ h2 ht
  have hF:k5_ s=c4_ (pmV m):=by rw[hB,gm.frame]
  have hml:=gm.len
  obtain⟨t1,t2,t3,t4⟩:=aqe_ (L:=pmV m) hml
  have hfl:=l8_ (pmV m)
  have hT:=gm.take
  have e8:mD s=cnM m:=by
   unfold mD
   rw[anX_,hF,t2,hT];rfl
  rw[hF,t1,t2,t3,t4,hT,e8]
  refine nd_ (by simp) (nd_ (ok1U (W7_ (F0_ m)) (by omega) (Nat.le_refl _)) (nd_ (by simp) (nd_ (O8_ (F0_ m) (by omega) (Nat.zero_le _) (F0_ m)) (a0_ (fun h=>by cases h) (fun _=>a0_ (fun h=>absurd h (by simp)) (fun _=>a0_ (fun h=>by cases h) (fun _=>a0_ (fun ho=> ?_) (fun ho=> ?_))))))))
  ·have hne:s.out≠[]:=by
    intro h0
    rw[h0]at ho
    cases ho
   obtain⟨o1,o2,o3⟩:=hO hne
   have hlen:0<s.out.length:=List.length_pos_iff.2 hne
   have hb:Nat.blt 0 s.out.length=true:=Nat.ble_eq_true_of_le hlen
   have ho2:oD s=m:=o1.symm
   have hmm:m∈s.out:=by
    rw[o1]
    have:s.out.getD 0 Enc.dflt=s.out[0]:=by simp[List.getD,List.getElem?_eq_getElem hlen]
    rw[this];exact List.getElem_mem hlen
   obtain⟨k1,k2,k3,k4,k5,k6,k7,k8,k9,k10,k11,k12⟩:=g6_ (x:=s) h2.gd.ok
   have hokm:okA Ms m=true:=List.all_eq_true.1 k7 _ hmm
   obtain⟨a1,a2,a3,a4,a5,a6⟩:=r1_ hokm
   have hokc:okA Ms (cnM m)=true:=W1_ (agZ_ _) a2 (Nat.le_refl _) (agY_ _) (by show(m.vs.map cnV).length≤_;rw[List.length_map];exact a5) (Nat.le_refl _)
   rw[ho2]
   refine nd_ hb (nd_ (by rw[hb];rfl) (nd_ (by simp) (nd_ (by simp) (nd_ (by simp) (nd_ (by simp) (nd_ (aot_ hokc hokm) (a0_ (fun h=> ?_) (fun _=>a0_ (fun h=> ?_) (fun _=> ?_)))))))))
   ·rw[ahN_]at h;cases h
   ·have hw2:IntKind.wrap .i64 (Int.ofNat s.out.length-1)=Int.ofNat (g4_ s).out.length:=by
     have:=h2.gd.out
     rw[Int.ofNat_eq_natCast,Int.ofNat_eq_natCast,w64 (by omega) (by omega)]
     omega
    rw[hw2]at h
    simp at h
   ·refine Nn.next (I:=IO' N) (m:=fun p:PO=>N+1-p.i) (F:=fun p:PO=>FO2 (N:Nat) (p.i:Nat)) (S:=fun p:PO=>SO2 l p.s p.es) (p:=⟨i,s,es⟩) ⟨i+1,g4_ s,es⟩ ⟨by show i+1+totS (g4_ s)=N;omega,g1,?_,h4⟩ (by show N+1-(i+1)<N+1-i;omega) (Seen.refl _ _ _)
    intro w hw hq
    have hw:w∈(g4_ s).sub:=hw
    rw[o3]at hw
    exact h3 w hw hq
  ·have h0:s.out=[]:=by
    have:=of_decide_eq_false ho
    rw[Int.ofNat_eq_natCast]at this
    exact List.length_eq_zero_iff.1 (by omega)
   obtain⟨o1,o2,o3,o4⟩:=hS h0
   obtain⟨e1,e2⟩:=N0_ o3
   have hm:sdW s∈s.sub:=by rw[e1];exact List.getElem_mem o3
   obtain⟨n1,n2⟩:=(h2.sub _ hm).note e2
   have hz:=h3 _ hm e2
   subst o1
   refine a0_ (fun h=>by cases h) (fun _=>a0_ (fun h=> ?_) (fun _=>a0_ (fun h=>by cases h) (fun _=> ?_)))
   ·have h:decide ((nxI (sdW s)).sq≤intV (getK (.int .i64 (sdW s).nu) (.int .i64 0) es))=true:=h
    rw[hz,n2]at h
    cases h
   ·exact Nn.next (I:=IO' N) (m:=fun p:PO=>N+1-p.i) (F:=fun p:PO=>FO2 (N:Nat) (p.i:Nat)) (S:=fun p:PO=>SO2 l p.s p.es) (p:=⟨i,s,es⟩) ⟨i+1,g4_ s,putK (.int .i64 (sdW s).nu) (.int .i64 (nxI (sdW s)).sq) es⟩ ⟨by show i+1+totS (g4_ s)=N;omega,g1,amc_ h2 h4 h3 o3 o4,U4_ h4⟩ (by show N+1-(i+1)<N+1-i;omega) (Seen.refl _ _ _)
theorem aqn_{l:List U8}{c:Nat}(hc:c≤1)(hl:l.all (okA U8)=true)(w:World)(args':Array Value)(hA:PW (TR w (H8_ w)) [tdL l c] args'.toList):
  Calls Tryz.prog 3 args' w fun e w'=>e= .returned (.bool true)∧Below w.heap.size w w':=by
 refine amg_ (C:=D0_) (fuel:=100) (n:=20) (un:=fun _=>0) (lvs:=lvsO) (ex:=exO l (n1_ l) (totS (n1_ l):Nat)) follows C9_ (fun β hβ=> ?_) w args' hA
 show lawE _ _ _ _ _ _ (cnOf 1 lvsO) _ _ [.slice (some ⟨0,0,some 0⟩) l.length c] (mkS [some (rowO .still l)]) adW_
 rw[api_]
 refine a0_ (fun _=>trivial) (fun q1=> ?_)
 have l60:l.length≤60:=by simp at q1;omega
 obtain⟨gm,m3,m4⟩:=alZ_ hl (show l.length≤1000000 by omega)
 have hN:totS (n1_ l)≤1000:=by
  have:=aaa_ (n1_ l).sub gm.sub
  unfold totS
  omega
 have o1:okA1 (Rw U8) (fun r=>List.all (Rw.l r) (okA U8)) [Ta.cell (Td.fr 1 (List.length l) c fun i=>encL l i)]=true:=O8_ hl (by omega) hc hl
 simp only[Nat.zero_add,aqb_]
 refine nd_ (by simp) (nd_ o1 ⟨?_,?_,trivial⟩)
 ·have:=apO_ (l:=l) hβ gm m3 m4
  have e:nO (n1_ l) 0=(ouP l).1.length:=by
   show(ouP l).1.length+0=_
   omega
  rw[e]at this
  exact this
 ·refine LoopJ.seen (f1:=FO2 (totS (n1_ l):Nat) (0:Nat)) (st1:=SO2 l (n1_ l) []) (Seen.objs rfl fun q o2 h=> ?_) ?_
  ·match q,h with
   |0,h=>cases h;exact⟨_,rfl,rfl,fun _ _ _ h=>h⟩
   |1,h=>cases h;exact⟨_,rfl,rfl,fun _ _ _ h=>h⟩
   |2,h=>cases h;exact⟨_,rfl,rfl,fun _ _ _ h=>h⟩
   |3,h=>cases h;exact⟨_,rfl,rfl,fun _ _ _ h=>h⟩
   |4,h=>cases h;exact⟨_,rfl,rfl,fun _ _ _ h=>h⟩
   |5,h=>cases h;exact⟨_,rfl,rfl,fun _ _ _ h=>h⟩
   |6,h=>cases h;exact⟨_,rfl,rfl,fun _ _ _ h=>h.openMap (.i .i64) (.i .i64)⟩
   |_+7,h=>cases h
  ·exact b2_ (IO' (totS (n1_ l))) (fun p=>FO2 (totS (n1_ l):Nat) (p.i:Nat)) (fun p=>SO2 l p.s p.es) (fun p=>totS (n1_ l)+1-p.i) (fun p hp K hK=>apN_ (s0:=n1_ l) hβ hN hK p hp) ⟨0,n1_ l,[]⟩ ⟨Nat.zero_add _,gm,fun w hw hq=>rfl,fun q hq=>by cases hq⟩
end Go.Proofs.YtachglcffimmeaaGreat.Ev
