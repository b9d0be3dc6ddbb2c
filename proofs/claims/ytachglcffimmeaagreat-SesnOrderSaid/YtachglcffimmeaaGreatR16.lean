/-
  Functions of trees: what has to hold for them to answer so.
-/
import Derived.Test.YtachglcffimmeaaGreatR15
set_option linter.unusedVariables false
set_option linter.unusedSimpArgs false
section
namespace Go.Proofs.YtachglcffimmeaaGreat.Ev
open Go Go.RowKit
def lay1(t:Td)(k:Nat):Value×List AObj:=match t with
 | .sc x=>(x,[])
 | .fr es n c e=>(.slice (some ⟨k,0,some 0⟩) n c,[.row .look es 0 n e])
def lays:List Td→Nat→List Value×List AObj
 |[],_=>([],[])
 |t::l,k=>((lay1 t k).1::(lays l (k+(lay1 t k).2.length)).1,(lay1 t k).2++(lays l (k+(lay1 t k).2.length)).2)
def acX_(t:Ta)(k:Nat):Value×List AObj:=match t with
 | .cell t=>lay1 t k
 | .agg ts=>(.agg ⟨(lays ts k).1⟩,(lays ts k).2)
def layA:List Ta→Nat→List Value×List AObj
 |[],_=>([],[])
 |t::l,k=>((acX_ t k).1::(layA l (k+(acX_ t k).2.length)).1,(acX_ t k).2++(layA l (k+(acX_ t k).2.length)).2)
structure LayR (w:World) (F:Nat→Prop) (objs:List AObj) (S:List Spot):Prop where
 len:S.length=objs.length
 ok: ∀(i:Nat) (s:Spot) (o:AObj),S[i]? =some s→objs[i]? =some o→(∀X F',ahe_ ⟨w.heap.size,w,X,F',noW⟩ s o)∧(s.void=false→s.blk<w.heap.size)∧s.fz=F
theorem LayR.nil(w:World)(F:Nat→Prop):LayR w F [] []:=⟨rfl,fun i s o h=>by simp at h⟩
theorem LayR.app{w:World}{F:Nat→Prop}{o1 o2:List AObj}{S1 S2:List Spot}(h:LayR w F o1 S1)(k:LayR w F o2 S2):LayR w F (o1++o2) (S1++S2):=by
 refine⟨by simp[h.len,k.len],fun i s o hs ho=> ?_⟩
 rcases Nat.lt_or_ge i S1.length with hi|hi
 ·rw[List.getElem?_append_left hi]at hs
  rw[List.getElem?_append_left (by have:=h.len;omega)]at ho
  exact h.ok i s o hs ho
 ·rw[List.getElem?_append_right hi]at hs
  rw[List.getElem?_append_right (by have:=h.len;omega),←h.len]at ho
  exact k.ok _ s o hs ho
def At(X S:List Spot)(k:Nat):Prop:= ∀(i:Nat) (s:Spot),S[i]? =some s→X[k+i]? =some s
theorem At.app{X S1 S2:List Spot}{k:Nat}(h:At X (S1++S2) k):At X S1 k∧At X S2 (k+S1.length):=by
 refine⟨fun i s hs=>h i s ?_,fun i s hs=> ?_⟩
 ·rw[List.getElem?_append_left ((List.getElem?_eq_some_iff.1 hs).1)];exact hs
 ·have:=h (S1.length+i) s (by rw[List.getElem?_append_right (by omega)];rw[show S1.length+i-S1.length=i by omega];exact hs)
  rw[←Nat.add_assoc]at this
  exact this
theorem abT_{w:World}{F:Nat→Prop}(hF: ∀b,F b→b<w.heap.size){t:Td}{y:Value}(h:TRo w F t y): ∃S,(∀k,LayR w F (lay1 t k).2 S)∧ ∀X k,At X S k→VR (fun i=>X[i]?) (lay1 t k).1 y:=by
 have hno: ∀{q:Prop},true=false→q:=by intro q h;cases h
 cases t with
 |sc x=>exact⟨[],fun k=>LayR.nil w F,fun X k _=>VR.mono (o9_ _) h⟩
 |fr es n c e=>
  have mk: ∀s:Spot,s.fz=F→(∀X F',ahe_ ⟨w.heap.size,w,X,F',noW⟩ s (.row .look es 0 n e))→(s.void=false→s.blk<w.heap.size)→ ∀k,LayR w F (lay1 (.fr es n c e) k).2 [s]:=fun s h1 h2 h3 k=>⟨rfl,fun i s' o hs ho=>by
   cases i with
   |zero=>cases hs;cases ho;exact⟨h2,h3,h1⟩
   |succ i=>cases hs⟩
  rcases h with⟨rfl,rfl,rfl⟩|⟨rfl,rfl,a,c',rfl⟩|⟨h0,b,o,c',rfl,h2,h3,h4⟩
  ·exact⟨[⟨0,0,true,es,0,true,F⟩],mk _ rfl (fun X F'=>⟨rfl,fun ρ w' hz hw=>⟨rfl,fun _=>Nat.le_refl _,(fun h=>by cases h),(fun h=>by cases h),fun i _ hi=>by omega⟩⟩) (fun h=>hno h),fun X k hX=> .sliceN _ _⟩
  ·exact⟨[⟨0,0,true,es,0,true,F⟩],mk _ rfl (fun X F'=>⟨rfl,fun ρ w' hz hw=>⟨rfl,fun _=>Nat.le_refl _,(fun h=>by cases h),(fun h=>by cases h),fun i _ hi=>by omega⟩⟩) (fun h=>hno h),fun X k hX=> .sliceE _ _ _ _ _ (hX 0 _ rfl) rfl⟩
  ·refine⟨[⟨b,o,true,es,0,false,F⟩],mk _ rfl (fun X F'=>⟨rfl,fun ρ w' hz hw=>⟨rfl,(fun h=>by cases h),(fun h=>by cases h),(fun h=>by cases h),fun i _ hi j hj=> ?_⟩⟩) (fun _=>h3),fun X k hX=> .sliceI k 0 ⟨b,o,true,es,0,false,F⟩ n c c' o (hX 0 _ rfl) h2 (fun _=>h0) (fun h=>by cases h) rfl (.inl (by simp))⟩
   obtain⟨z,z1,z2,z3⟩:=h4 i hi j hj
   have hw:=hw.of (fun _ h=>h)
   exact⟨z,(hw.cell (p:=⟨b,o+i*es+j,none⟩) h3).trans z1,z2,z3.kept hz (fun b hb=>by obtain⟨_,_,_,_,hh⟩:=hw;exact hh b (hF b hb))⟩
theorem aiH_{w:World}{F:Nat→Prop}(hF: ∀b,F b→b<w.heap.size): ∀{ts:List Td} {ys:List Value},PW (TRo w F) ts ys→ ∃S,(∀k,LayR w F (lays ts k).2 S)∧ ∀X k,At X S k→VRL (fun i=>X[i]?) (lays ts k).1 ys:=by
 intro ts
 induction ts with
 |nil=>intro ys h;have:=h.nil_inv;subst this;exact⟨[],fun k=>LayR.nil w F,fun X k _=>VRL.nil _⟩
 |cons t ts ih=>
  intro ys h
  obtain⟨y,m,rfl,hy,hm⟩:=h.uncons
  obtain⟨S1,a1,a2⟩:=abT_ hF hy
  obtain⟨S2,b1,b2⟩:=ih hm
  refine⟨S1++S2,fun k=>(a1 k).app (b1 _),fun X k hX=> ?_⟩
  obtain⟨h1,h2⟩:=hX.app
  rw[(a1 k).len]at h2
  exact VRL.cons (a2 X k h1) (b2 X _ h2)
theorem afM_{w:World}{F:Nat→Prop}(hF: ∀b,F b→b<w.heap.size){t:Ta}{y:Value}(h:TaR w F t y): ∃S,(∀k,LayR w F (acX_ t k).2 S)∧ ∀X k,At X S k→VR (fun i=>X[i]?) (acX_ t k).1 y:=by
 cases t with
 |cell t=>exact abT_ hF h
 |agg ts=>
  obtain⟨a,rfl,h⟩:=h
  obtain⟨S,h1,h2⟩:=aiH_ hF h
  refine⟨S,h1,fun X k hX=> ?_⟩
  have h3:=VR.agg' (h2 X k hX)
  have h4:a.toList.toArray=a:=by simp
  rw[h4]at h3
  exact h3
theorem P1_{w:World}{F:Nat→Prop}(hF: ∀b,F b→b<w.heap.size): ∀{ts:List Ta} {ys:List Value},PW (TaR w F) ts ys→ ∃S,(∀k,LayR w F (layA ts k).2 S)∧ ∀X k,At X S k→VRL (fun i=>X[i]?) (layA ts k).1 ys:=by
 intro ts
 induction ts with
 |nil=>intro ys h;have:=h.nil_inv;subst this;exact⟨[],fun k=>LayR.nil w F,fun X k _=>VRL.nil _⟩
 |cons t ts ih=>
  intro ys h
  obtain⟨y,m,rfl,hy,hm⟩:=h.uncons
  obtain⟨S1,a1,a2⟩:=afM_ hF hy
  obtain⟨S2,b1,b2⟩:=ih hm
  refine⟨S1++S2,fun k=>(a1 k).app (b1 _),fun X k hX=> ?_⟩
  obtain⟨h1,h2⟩:=hX.app
  rw[(a1 k).len]at h2
  exact VRL.cons (a2 X k h1) (b2 X _ h2)
def raE(st:ASt):Ra→Value→List Nat→Prop
 | .sc x,v,l=>l=[]∧v=x∧s2_ v=true
 | .still es n c e,v,l=>l=[]∧((v= .slice none 0 0∧n=0∧c=1)∨ ∃b i0 lo m g c0,v= .slice (some ⟨b,0,some i0⟩) n c0∧(n=0→c0=c)∧st.h.get b=some (.row .still es lo m g)∧lo≤i0∧i0+n≤m∧ ∀i,i<n→ ∀j,j<es→g (i0+i) j=e i j)
 | .own es n c e,v,l=>(l=[]∧v= .slice none 0 0∧n=0∧c=1)∨
   (∃b i0 lo m g c0,l=[b]∧v= .slice (some ⟨b,0,some i0⟩) n c0∧(n=0→c0=c)∧st.h.get b=some (.row .mine es lo m g)∧lo≤i0∧i0+n≤m∧ ∀i,i<n→ ∀j,j<es→g (i0+i) j=e i j)∨
   (∃b o cap cs ex es',l=[b]∧v= .slice (some ⟨b,o,none⟩) n cap∧st.h.get b=some (.cells cs ex es')∧c=0∧(ex=false→es'=es)∧(ex=true→o+cap*es≤cs.length)∧ ∀i,i<n→ ∀j,j<es→ ∃x,cs[o+i*es+j]? =some x∧s2_ x=true∧e i j= .sc x)
def rasE(st:ASt):List Ra→List Value→List Nat→Prop
 |[],[],l=>l=[]
 |r::rs,v::vs,l=> ∃l1 l2,l=l1++l2∧raE st r v l1∧rasE st rs vs l2
 |_,_,_=>False
def rvE(st:ASt):Rv→Value→List Nat→Prop
 | .cell r,v,l=>raE st r v l
 | .agg rs,v,l=> ∃a:Array Value,v= .agg a∧rasE st rs a.toList l
def rvsE(st:ASt):List Rv→List Value→List Nat→Prop
 |[],[],l=>l=[]
 |r::rs,v::vs,l=> ∃l1 l2,l=l1++l2∧rvE st r v l1∧rvsE st rs vs l2
 |_,_,_=>False
def ansE(a:Ans)(r:AE)(st:ASt):Prop:=match r with
 | .returned v=>match a with
  | .ret q=> ∃l,rvE st q v l∧l.Nodup
  | .rets qs=> ∃(a:Array Value) (l:List Nat),v= .tuple a∧rvsE st qs a.toList l∧l.Nodup
  | .pan _=>False
 | .panicked v=>match a with
  | .pan u=>v=u∧ground 3 v=true
  |_=>False
def Blks(ρ:Rho)(g:Mem)(l lb:List Nat):Prop:= ∀b∈lb,∃a∈l,∃o s,g a=some o∧o.isOwn=true∧ρ a=some s∧s.void=false∧s.blk=b
theorem Blks.nil(ρ:Rho)(g:Mem)(l:List Nat):Blks ρ g l []:=fun b h=>by simp at h
theorem Blks.nodup{ρ:Rho}{g:Mem}{w:World}(hw:WR ρ g w){l1 l2 b1 b2:List Nat}(h1:Blks ρ g l1 b1)(h2:Blks ρ g l2 b2)(hn:(l1++l2).Nodup)(n1:b1.Nodup)(n2:b2.Nodup):(b1++b2).Nodup:=by
 refine List.nodup_append.2 ⟨n1,n2,fun x hx y hy hxy=> ?_⟩
 subst hxy
 obtain⟨a,ha,o,s,q1,q2,q3,q4,q5⟩:=h1 x hx
 obtain⟨a',ha',o',s',p1,p2,p3,p4,p5⟩:=h2 x hy
 have:=hw.inj a a' o o' s s' q1 p1 (.inl q2) q3 p3 q4 p4 (by omega)
 subst this
 exact(List.nodup_append.1 hn).2.2 a ha a ha' rfl
theorem Blks.app{ρ:Rho}{g:Mem}{l1 l2 b1 b2:List Nat}(h1:Blks ρ g l1 b1)(h2:Blks ρ g l2 b2):Blks ρ g (l1++l2) (b1++b2):=fun b hb=>by
 rcases List.mem_append.1 hb with hb|hb
 ·obtain⟨a,ha,h⟩:=h1 b hb;exact⟨a,List.mem_append_left _ ha,h⟩
 ·obtain⟨a,ha,h⟩:=h2 b hb;exact⟨a,List.mem_append_right _ ha,h⟩
section
variable {ρ:Rho} {st:ASt} {w w':World}
theorem aon_(hw:WR ρ st.h.get w')(how:OwnB ρ st.h.get w.heap.size){r:Ra}{v y:Value}{l:List Nat}(h:raE st r v l)(hv:VR ρ v y): ∃lb,RaR w w' (Frz ρ) r y lb∧Blks ρ st.h.get l lb∧lb.Nodup:=by
 cases r with
 |sc x=>
  obtain⟨rfl,rfl,h3⟩:=h
  exact⟨[],⟨rfl,(i9_ h3 hv).1⟩,Blks.nil _ _ _,List.nodup_nil⟩
 |still es n c e=>
  obtain⟨rfl,h⟩:=h
  refine⟨[],⟨rfl,?_⟩,Blks.nil _ _ _,List.nodup_nil⟩
  rcases h with⟨rfl,rfl,rfl⟩|⟨b,i0,lo,m,g,c0,rfl,kc,hg,k1,k2,k3⟩
  ·cases hv;exact .inl ⟨rfl,rfl,rfl⟩
  ·obtain⟨s,e1,f1,f2,f3,fz,f4⟩:=hw.obj _ _ hg
   cases hv with
   |sliceI _ _ s' _ _ c' o' hsp hnc hcc hro hvd ho=>
    rw[hsp]at e1;cases e1
    rcases Nat.eq_zero_or_pos n with h0|h0
    ·subst h0
     have hc0:c=0:=by
      have:=kc rfl
      rcases Nat.eq_zero_or_pos c with h|h
      ·exact h
      ·have:=hcc (by omega);omega
     exact .inr (.inl ⟨rfl,hc0,_,_,rfl⟩)
    ·have ho':o'=s.base+i0*s.es:=by rcases ho with ho|ho;exact ho;omega
     refine .inr (.inr ⟨h0,s.blk,o',c',rfl,hnc,fz rfl hvd,fun i hi j hj=> ?_⟩)
     obtain⟨z,z1,z2,z3⟩:=f4 (i0+i) (by omega) (by omega) j hj
     rw[k3 i hi j hj]at z3
     refine⟨z,?_,z2,z3⟩
     rw[←z1,ho',f1];congr 2;rw[Nat.add_mul];omega
   |sliceE _ _ c' x s' hsx hex=>exact .inr (.inl ⟨rfl,(kc rfl).symm,_,_,rfl⟩)
   |sliceN=>exact .inl ⟨rfl,(kc rfl).symm,rfl⟩
   |sliceZ=>exact .inr (.inl ⟨rfl,(kc rfl).symm,_,_,rfl⟩)
 |own es n c e=>
  rcases h with⟨rfl,rfl,rfl,rfl⟩|⟨b,i0,lo,m,g,c0,rfl,rfl,kc,hg,k1,k2,k3⟩|⟨b,o,cap,cs,ex,es',rfl,rfl,hg,rfl,k1,k2,k3⟩
  ·cases hv;exact⟨[],.inl ⟨rfl,rfl,.inl ⟨rfl,rfl⟩⟩,Blks.nil _ _ _,List.nodup_nil⟩
  ·obtain⟨s,e1,f1,f2,f3,fz,f4⟩:=hw.obj _ _ hg
   obtain⟨x1,x2,x3⟩:=f3 rfl
   cases hv with
   |sliceI _ _ s' _ _ c' o' hsp hnc hcc hro hvd ho=>
    rw[hsp]at e1;cases e1
    obtain⟨C,t,fr,q1,q2,q3,q4⟩:=x3 hvd
    have hb:Blks ρ st.h.get [b] [s.blk]:=fun x hx=>by
     simp at hx;subst hx
     exact⟨b,by simp,_,s,hg,rfl,hsp,hvd,rfl⟩
    have hro':=hro x1
    refine⟨[s.blk],.inr ⟨s.blk,o',c',C,t,fr,rfl,rfl,hnc,(fun h=>by rcases Nat.eq_zero_or_pos n with h0|h0;exact hcc (by rw[kc h0];exact h);exact h0),how _ ⟨b,_,s,hg,rfl,hsp,hvd,rfl⟩,q1,q3,by rw[←f1];omega,fun hz=>(hw.fz _ hz).2 ⟨b,_,s,hg,rfl,hsp,hvd,rfl⟩,fun i hi j hj=> ?_⟩,hb,by simp⟩
    have ho':o'=s.base+i0*s.es:=by rcases ho with ho|ho;exact ho;omega
    obtain⟨z,z1,z2,z3⟩:=f4 (i0+i) (by omega) (by omega) j hj
    rw[k3 i hi j hj]at z3
    rw[d4_ q1]at z1
    refine⟨z,?_,z2,z3⟩
    rw[←z1,ho',f1];congr 1;rw[Nat.add_mul];omega
   |sliceE _ _ c' x s' hsx hex=>rw[hsx]at e1;cases e1;rw[x1]at hex;cases hex
   |sliceN=>exact⟨[],.inl ⟨rfl,rfl,.inl ⟨(kc rfl).symm,rfl⟩⟩,Blks.nil _ _ _,List.nodup_nil⟩
   |sliceZ=>exact⟨[],.inl ⟨rfl,rfl,.inr ⟨(kc rfl).symm,_,rfl⟩⟩,Blks.nil _ _ _,List.nodup_nil⟩
  ·obtain⟨s,e1,f0,f1,f2,C,t,fr,f3,f4,f5,f6,f7⟩:=hw.obj _ _ hg
   cases hv with
   |slice _ _ s' _ _ c' o' hsp hn hc hxx hro ho=>
    rw[hsp]at e1;cases e1
    rcases Nat.eq_zero_or_pos c' with h0|h0
    ·have hn0:n=0:=by omega
     subst hn0;subst h0
     exact⟨[],.inl ⟨rfl,rfl,.inr ⟨rfl,_,rfl⟩⟩,Blks.nil _ _ _,List.nodup_nil⟩
    have hb:Blks ρ st.h.get [b] [s.blk]:=fun x hx=>by
     simp at hx;subst hx
     exact⟨b,by simp,_,s,hg,rfl,hsp,f0,rfl⟩
    have ho':o'=s.base+o:=by rcases ho with ho|ho;exact ho;omega
    have hroom:o'+c'*es≤C.size:=by
     cases hex:ex with
     |false=>
      rw[hex]at f1
      have h1:=hro f1
      rw[f2,k1 hex]at h1;omega
     |true=>
      rw[hex]at f1
      have h1:=hxx f1
      have h2:=k2 hex
      rw[h1,ho'];omega
    refine⟨[s.blk],.inr ⟨s.blk,o',c',C,t,fr,rfl,rfl,by omega,fun h=>absurd rfl h,how _ ⟨b,_,s,hg,rfl,hsp,f0,rfl⟩,f3,f5,hroom,fun hz=>(hw.fz _ hz).2 ⟨b,_,s,hg,rfl,hsp,f0,rfl⟩,fun i hi j hj=> ?_⟩,hb,by simp⟩
    obtain⟨x,p1,p2,p3⟩:=k3 i hi j hj
    obtain⟨z,z1,z2⟩:=f7 _ x p1
    obtain⟨r1,r2⟩:=i9_ p2 z2
    refine⟨z,?_,r2,by rw[p3];exact r1⟩
    rw[←z1,ho'];congr 1;omega
theorem aom_(hw:WR ρ st.h.get w')(how:OwnB ρ st.h.get w.heap.size): ∀{rs:List Ra} {vs ys:List Value} {l:List Nat},rasE st rs vs l→l.Nodup→VRL ρ vs ys→ ∃lb,RasR w w' (Frz ρ) rs ys lb∧Blks ρ st.h.get l lb∧lb.Nodup:=by
 intro rs
 induction rs with
 |nil=>
  intro vs ys l h hn hv
  cases vs with
  |nil=>
   have:l=[]:=h
   subst this
   have:=hv.nil_inv
   subst this
   exact⟨[],rfl,Blks.nil _ _ _,List.nodup_nil⟩
  |cons=>exact h.elim
 |cons r rs ih=>
  intro vs ys l h hn hv
  cases vs with
  |nil=>exact h.elim
  |cons v vs=>
   obtain⟨l1,l2,rfl,h1,h2⟩:=h
   obtain⟨y,m,rfl,hy,hm⟩:=hv.uncons
   obtain⟨b1,p1,p2,p3⟩:=aon_ hw how h1 hy
   obtain⟨b2,q1,q2,q3⟩:=ih h2 (List.nodup_append.1 hn).2.1 hm
   exact⟨b1++b2,⟨b1,b2,rfl,p1,q1⟩,p2.app q2,p2.nodup hw q2 hn p3 q3⟩
theorem aoj_(hw:WR ρ st.h.get w')(how:OwnB ρ st.h.get w.heap.size){r:Rv}{v y:Value}{l:List Nat}(h:rvE st r v l)(hn:l.Nodup)(hv:VR ρ v y): ∃lb,RvR w w' (Frz ρ) r y lb∧Blks ρ st.h.get l lb∧lb.Nodup:=by
 cases r with
 |cell r=>exact aon_ hw how h hv
 |agg rs=>
  obtain⟨a,rfl,h⟩:=h
  cases hv with
  |agg _ a' ha hh=>
   obtain⟨lb,p1,p2,p3⟩:=aom_ hw how h hn (VRL.of_arrays ha hh)
   exact⟨lb,⟨a',rfl,p1⟩,p2,p3⟩
theorem aoi_(hw:WR ρ st.h.get w')(how:OwnB ρ st.h.get w.heap.size): ∀{rs:List Rv} {vs ys:List Value} {l:List Nat},rvsE st rs vs l→l.Nodup→VRL ρ vs ys→ ∃lb,RvsR w w' (Frz ρ) rs ys lb∧Blks ρ st.h.get l lb∧lb.Nodup:=by
 intro rs
 induction rs with
 |nil=>
  intro vs ys l h hn hv
  cases vs with
  |nil=>
   have:l=[]:=h
   subst this
   have:=hv.nil_inv
   subst this
   exact⟨[],rfl,Blks.nil _ _ _,List.nodup_nil⟩
  |cons=>exact h.elim
 |cons r rs ih=>
  intro vs ys l h hn hv
  cases vs with
  |nil=>exact h.elim
  |cons v vs=>
   obtain⟨l1,l2,rfl,h1,h2⟩:=h
   obtain⟨y,m,rfl,hy,hm⟩:=hv.uncons
   obtain⟨b1,p1,p2,p3⟩:=aoj_ hw how h1 (List.nodup_append.1 hn).1 hy
   obtain⟨b2,q1,q2,q3⟩:=ih h2 (List.nodup_append.1 hn).2.1 hm
   exact⟨b1++b2,⟨b1,b2,rfl,p1,q1⟩,p2.app q2,p2.nodup hw q2 hn p3 q3⟩
end
theorem PostE.ans{w w':World}{X:List Spot}{F:Nat→Prop}{a:Ans}{e:Ending}(h:PostE ⟨w.heap.size,w,X,F,noW⟩ (ansE a) e w'):AnsR w F a e w':=by
 obtain⟨⟨r,st',ρ',h1,h2,hw,_,_,how,hfz,_⟩,h3⟩:=h
 have how:OwnB ρ' st'.h.get w.heap.size:=how.of (fun _ h=>h)
 refine⟨h3.of (fun _ h=>h),Frz ρ',fun b hb=> ?_,?_⟩
 ·rcases hfz b hb with h|h|h
  ·exact .inl ⟨h,(hw.fz b hb).1⟩
  ·exact .inr h
  ·exact h.elim
 ·unfold ansE at h2
  split at h2
  ·rename_i v
   obtain⟨y,rfl,hy⟩:=h1
   split at h2
   ·obtain⟨l,k1,k2⟩:=h2
    obtain⟨lb,p1,p2,p3⟩:=aoj_ hw how k1 k2 hy
    exact⟨y,lb,rfl,p1,p3⟩
   ·obtain⟨a,l,rfl,k1,k2⟩:=h2
    cases hy with
    |tuple _ a' ha hh=>
     obtain⟨lb,p1,p2,p3⟩:=aoi_ hw how k1 k2 (VRL.of_arrays ha hh)
     exact⟨a',lb,rfl,p1,p3⟩
   ·exact h2.elim
  ·rename_i v
   split at h2
   ·obtain⟨rfl,hg⟩:=h2
    obtain⟨v',rfl,hv⟩:=h1
    have:=VR.ground 3 hg hv
    subst this
    exact⟨v',rfl,VR.refl 3 hg⟩
   ·exact h2.elim
theorem abn_{P:Program}{g:FuncId}{ts:List Ta}{a:Ans}(hm:P.follows .mixedOrders=true)
  (h: ∃(C:Told) (fuel n:Nat) (un:Nat→Nat) (lvs:Nat→List Nat) (ex:Nat→Kt→Prop),a8_ P C∧ ∀β:Bs,β.X.length=(layA ts 0).2.length→lawE P C fuel n β un (cnOf (layA ts 0).2.length lvs) ex g (layA ts 0).1 (mkS ((layA ts 0).2.map some)) (ansE a))
  (w:World) (args':Array Value) (F:Nat→Prop) (hF: ∀b,F b→b<w.heap.size) (ha:PW (TaR w F) ts args'.toList):Calls P g args' w fun e w'=>AnsR w F a e w':=by
 obtain⟨C,fuel,n,un,lvs,ex,hC,hl⟩:=h
 obtain⟨S,s1,s2⟩:=P1_ hF ha
 have hlen:=(s1 0).len
 have hv:=s2 S 0 (fun i s hs=>by rw[Nat.zero_add];exact hs)
 have hl':=hl ⟨w.heap.size,w,S,F,noW⟩ hlen
 rw[←hlen]at hl'
 refine(B7_ (F:=F) hm hC w hlen (fun k s o h1 h2=>((s1 0).ok k s o h1 h2).1 _ _) (fun s hs hvd=> ?_) (fun s hs b hb=> ?_) hF hv hl').mono fun e w' he=>he.ans
 ·obtain⟨i,hi⟩:=List.getElem?_of_mem hs
  have hil:=(List.getElem?_eq_some_iff.1 hi).1
  exact((s1 0).ok i s _ hi (List.getElem?_eq_getElem (by omega))).2.1 hvd
 ·obtain⟨i,hi⟩:=List.getElem?_of_mem hs
  have hil:=(List.getElem?_eq_some_iff.1 hi).1
  have:=((s1 0).ok i s _ hi (List.getElem?_eq_getElem (by omega))).2.2
  rw[this]at hb;exact hb
end Go.Proofs.YtachglcffimmeaaGreat.Ev
end
section
namespace Go.Proofs.YtachglcffimmeaaGreat.Ev
open Go Go.RowKit
class Enc (α:Type) where
 es:Nat
 enc:α→Nat→Td
 dec:(Nat→Td)→α
 ok:(Nat→Td)→Bool
 dflt:α
 good:(Nat→Td)→Prop
 okgood: ∀c,ok c=true→good c
 law: ∀(c:Nat→Td),good c→ ∀(w:World) F j y,j<es→TR w F (c j) y→TR w F (enc (dec c) j) y
 back: ∀a,dec (enc a)=a
 mrg: ∀(a b:α) (w:World) F j y,j<es→(TR w F (mrgT true (enc a j) (enc b j)) y→TR w F (enc a j) y)∧(TR w F (mrgT false (enc a j) (enc b j)) y→TR w F (enc b j) y)
def encL{α:Type}[Enc α](l:List α)(i j:Nat):Td:=Enc.enc (l.getD i Enc.dflt) j
def decL{α:Type}[Enc α](n:Nat)(e:Nat→Nat→Td):List α:=(List.range n).map fun i=>Enc.dec (e i)
def okL(α:Type)[Enc α](n:Nat)(e:Nat→Nat→Td):Bool:=(List.range n).all fun i=>Enc.ok α (e i)
def tdL{α:Type}[Enc α](l:List α)(c:Nat):Td:= .fr (Enc.es α) l.length c (encL l)
def okT(α:Type)[Enc α](t:Td):Bool:=match t with
 | .fr es n c e=>(Nat.beq es (Enc.es α)&&okL α n e&&Nat.ble c 1&&Nat.ble n 1000000)||(Nat.beq n 0&&Nat.beq c 1)
 |_=>false
def a4_(α:Type)[Enc α](t:Td):List α:=match t with
 | .fr _ n _ e=>decL n e
 |_=>[]
def nilT(t:Td):Nat:=match t with
 | .fr _ _ c _=>c
 |_=>0
def okA(α:Type)[Enc α](a:α):Bool:=Enc.ok α (Enc.enc a)
theorem b4_{α:Type}[Enc α](l:List α):decL l.length (encL l)=l:=by
 apply List.ext_getElem?
 intro i
 unfold decL
 rw[List.getElem?_map]
 rcases Nat.lt_or_ge i l.length with h|h
 ·rw[List.getElem?_range h]
  simp only[Option.map_some]
  have:Enc.dec (encL l i)=l.getD i Enc.dflt:=Enc.back _
  rw[this]
  simp[List.getD,h]
 ·rw[List.getElem?_eq_none (by simpa using h),List.getElem?_eq_none h];rfl
theorem i5_{α:Type}[Enc α](n:Nat)(e:Nat→Nat→Td):(decL n e:List α).length=n:=by simp[decL]
theorem Q2_{α:Type}[Enc α]{n:Nat}{e:Nat→Nat→Td}{i:Nat}(h:i<n):(decL n e:List α).getD i Enc.dflt=Enc.dec (e i):=by
 simp[decL,List.getD,List.getElem?_map,List.getElem?_range h]
theorem abM_{α:Type}[Enc α]{n:Nat}{e:Nat→Nat→Td}(h:okL α n e=true){i:Nat}(hi:i<n):Enc.ok α (e i)=true:=by
 unfold okL at h
 rw[List.all_eq_true]at h
 exact h i (List.mem_range.2 hi)
theorem ajW_{α:Type}[Enc α]{n:Nat}{e:Nat→Nat→Td}(h: ∀i,i<n→Enc.ok α (e i)=true):okL α n e=true:=by
 unfold okL
 rw[List.all_eq_true]
 exact fun i hi=>h i (List.mem_range.1 hi)
theorem O7_{α:Type}[Enc α]{l:List α}(h:l.all (okA α)=true):okL α l.length (encL l)=true:=ajW_ fun i hi=>by
 rw[List.all_eq_true]at h
 have:=h (l.getD i Enc.dflt) (by simp[List.getD,hi])
 exact this
theorem aaJ_{α:Type}[Enc α](l m:List α){i:Nat}(h:i<l.length)(j:Nat):encL (l++m) i j=encL l i j:=by
 simp[encL,List.getD,List.getElem?_append_left h]
theorem aaK_{α:Type}[Enc α](l m:List α){i:Nat}(h:l.length≤i)(j:Nat):encL (l++m) i j=encL m (i-l.length) j:=by
 simp[encL,List.getD,List.getElem?_append_right h]
theorem TRo.congr{w:World}{F:Nat→Prop}{es n c:Nat}{e e':Nat→Nat→Td}{y:Value}(he: ∀i,i<n→ ∀j,j<es→ ∀z,TR w F (e i j) z→TR w F (e' i j) z)(h:TRo w F (.fr es n c e) y):TRo w F (.fr es n c e') y:=by
 rcases h with h|h|⟨h0,b,o,c',h1,h2,h3,h4⟩
 ·exact .inl h
 ·exact .inr (.inl h)
 ·refine .inr (.inr ⟨h0,b,o,c',h1,h2,h3,fun i hi j hj=> ?_⟩)
  obtain⟨z,z1,z2,z3⟩:=h4 i hi j hj
  exact⟨z,z1,z2,he i hi j hj z z3⟩
theorem TR.congr{w:World}{F:Nat→Prop}{es n c:Nat}{e e':Nat→Nat→Td}{y:Value}(he: ∀i,i<n→ ∀j,j<es→ ∀z,TR w F (e i j) z→TR w F (e' i j) z)(h:TR w F (.fr es n c e) y):TR w F (.fr es n c e') y:=by
 rcases h with h|h|⟨h0,b,o,c',h1,h2,h3,h4⟩
 ·exact .inl h
 ·exact .inr (.inl h)
 ·refine .inr (.inr ⟨h0,b,o,c',h1,h2,h3,fun i hi j hj=> ?_⟩)
  obtain⟨z,z1,z2,z3⟩:=h4 i hi j hj
  exact⟨z,z1,z2,he i hi j hj z z3⟩
theorem X7_{α:Type}[Enc α]{n:Nat}{e:Nat→Nat→Td}(h:okL α n e=true){w:World}{F:Nat→Prop}: ∀i,i<n→ ∀j,j<Enc.es α→ ∀z,TR w F (e i j) z→TR w F (encL (decL n e:List α) i j) z:=fun i hi j hj z hz=>by
 unfold encL
 rw[Q2_ hi]
 exact Enc.law _ (Enc.okgood _ (abM_ h hi)) w F j z hj hz
def p2_(α:Type)[Enc α](t:Td):Prop:=match t with
 | .fr es n c e=>(es=Enc.es α∧(∀i,i<n→Enc.good α (e i))∧c≤1)∨(n=0∧c=1)
 |_=>False
theorem f7_{α:Type}[Enc α]{t:Td}(h:p2_ α t){w:World}{F:Nat→Prop}{y:Value}(ht:TR w F t y):TR w F (tdL (a4_ α t) (nilT t)) y:=by
 cases t with
 |sc x=>exact h.elim
 |fr es n c e=>
  show TR w F (.fr (Enc.es α) (decL n e:List α).length c (encL (decL n e:List α))) y
  rw[i5_]
  rcases h with⟨rfl,h2,h3⟩|⟨rfl,rfl⟩
  ·refine ht.congr fun i hi j hj z hz=> ?_
   unfold encL
   rw[Q2_ hi]
   exact Enc.law _ (h2 i hi) w F j z hj hz
  ·rcases ht with ht|ht|ht
   ·exact .inl ht
   ·exact absurd ht.2.1 (by simp)
   ·exact absurd ht.1 (by simp)
theorem aoF_{α:Type}[Enc α]{t:Td}(h:p2_ α t):nilT t≤1:=by
 cases t with
 |sc x=>exact h.elim
 |fr es n c e=>
  show c≤1
  rcases h with⟨_,_,h3⟩|⟨rfl,rfl⟩
  ·exact h3
  ·exact Nat.le_refl _
theorem h1_{α:Type}[Enc α]{t:Td}(h:okT α t=true):p2_ α t:=by
 cases t with
 |sc x=>cases h
 |fr es n c e=>
  simp only[okT,Bool.or_eq_true,Bool.and_eq_true]at h
  rcases h with⟨⟨⟨h1,h2⟩,h3⟩,h4⟩|⟨h1,h2⟩
  ·exact .inl ⟨Nat.eq_of_beq_eq_true h1,fun i hi=>Enc.okgood _ (abM_ h2 hi),Nat.le_of_ble_eq_true h3⟩
  ·exact .inr ⟨Nat.eq_of_beq_eq_true h1,Nat.eq_of_beq_eq_true h2⟩
theorem aiM_{α:Type}[Enc α]{sh:Nat→Sh}{n cc:Nat}{el:Nat→Nat→Td}(hs: ∀c:Nat→Td,(∀j,j<Enc.es α→ShOk (sh j) (c j))→Enc.good α c)(h:ShOk (.sl (Enc.es α) sh) (.fr (Enc.es α) n cc el)):p2_ α (.fr (Enc.es α) n cc el):= .inl ⟨rfl,fun i hi=>hs _ fun j hj=>h.2.2.2 i hi j hj,h.2.1⟩
theorem agc_{α:Type}[Enc α]{p:α→Prop}(hp: ∀c,Enc.good α c→p (Enc.dec c)){t:Td}(h:p2_ α t): ∀a∈(a4_ α t),p a:=by
 cases t with
 |sc x=>exact h.elim
 |fr es n c e=>
  intro a ha
  obtain⟨i,hi,rfl⟩:=List.mem_map.1 (show a∈(decL n e:List α)from ha)
  have hi:=List.mem_range.1 hi
  rcases h with⟨_,h2,_⟩|⟨rfl,rfl⟩
  ·exact hp _ (h2 i hi)
  ·omega
theorem agt_{α:Type}[Enc α](l:List α){k:Nat}(h:k≤l.length):decL k (encL l)=l.take k:=by
 apply List.ext_getElem?
 intro i
 unfold decL
 rw[List.getElem?_map,List.getElem?_take]
 rcases Nat.lt_or_ge i k with hi|hi
 ·rw[List.getElem?_range hi,if_pos hi]
  simp only[Option.map_some]
  have:Enc.dec (encL l i)=l.getD i Enc.dflt:=Enc.back _
  rw[this]
  simp[List.getD,show i<l.length by omega]
 ·rw[List.getElem?_eq_none (by simpa using hi),if_neg (by omega)];rfl
theorem h9_{α:Type}[Enc α]{t:Td}(h:okT α t=true){w:World}{F:Nat→Prop}{y:Value}(ht:TRo w F t y):TRo w F (tdL (a4_ α t) (nilT t)) y:=by
 cases t with
 |sc x=>cases h
 |fr es n c e=>
  simp only[okT,Bool.or_eq_true,Bool.and_eq_true]at h
  show TRo w F (.fr (Enc.es α) (decL n e:List α).length c (encL (decL n e:List α))) y
  rw[i5_]
  rcases h with⟨⟨⟨h1,h2⟩,h3⟩,h4⟩|⟨h1,h2⟩
  ·have:=Nat.eq_of_beq_eq_true h1
   subst this
   exact ht.congr (X7_ h2)
  ·have h1:=Nat.eq_of_beq_eq_true h1
   have h2:=Nat.eq_of_beq_eq_true h2
   subst h1 h2
   rcases ht with ht|ht|ht
   ·exact .inl ht
   ·exact absurd ht.2.1 (by simp)
   ·exact absurd ht.1 (by simp)
theorem b7_{α:Type}[Enc α]{t:Td}(h:okT α t=true):(a4_ α t).length≤1000000∧nilT t≤1:=by
 cases t with
 |sc x=>cases h
 |fr es n c e=>
  simp only[okT,Bool.or_eq_true,Bool.and_eq_true]at h
  show(decL n e:List α).length≤1000000∧c≤1
  rw[i5_]
  rcases h with⟨⟨⟨h1,h2⟩,h3⟩,h4⟩|⟨h1,h2⟩
  ·exact⟨Nat.le_of_ble_eq_true h4,Nat.le_of_ble_eq_true h3⟩
  ·have h1:=Nat.eq_of_beq_eq_true h1
   have h2:=Nat.eq_of_beq_eq_true h2
   omega
theorem d0_{α:Type}[Enc α]{l:List α}{c:Nat}(h:l.all (okA α)=true)(hl:l.length≤1000000)(hc:c≤1):okT α (tdL l c)=true:=by
 simp only[tdL,okT,Bool.or_eq_true,Bool.and_eq_true]
 exact .inl ⟨⟨⟨Nat.beq_refl _,O7_ h⟩,Nat.ble_eq_true_of_le hc⟩,Nat.ble_eq_true_of_le hl⟩
theorem lT_{α:Type}[Enc α](l:List α)(c:Nat):a4_ α (tdL l c)=l:=b4_ l
theorem n0_{α:Type}[Enc α](l:List α)(c:Nat):nilT (tdL l c)=c:=rfl
theorem d6_{α:Type}[Enc α](h0:Enc.es α≠0){l m:List α}{c d:Nat}{w:World}{F:Nat→Prop}{y:Value}(h:TR w F (mrgT true (.fr (Enc.es α) l.length c (encL l)) (.fr (Enc.es α) m.length d (encL m))) y):TR w F (.fr (Enc.es α) l.length c (encL l)) y:=by
 have hs:g0_ (Enc.es α) l.length (Enc.es α) m.length=true:=by simp[g0_,Nat.beq_refl]
 simp only[mrgT,hs,cond_true,b8_ h0,cond_false]at h
 exact h.congr fun i hi j hj z hz=>(Enc.mrg _ _ w F j z hj).1 hz
theorem c9_{α:Type}[Enc α](h0:Enc.es α≠0){l m:List α}{c d:Nat}{w:World}{F:Nat→Prop}{y:Value}(h:TR w F (mrgT false (.fr (Enc.es α) l.length c (encL l)) (.fr (Enc.es α) m.length d (encL m))) y):TR w F (.fr (Enc.es α) m.length d (encL m)) y:=by
 have hs:g0_ (Enc.es α) l.length (Enc.es α) m.length=true:=by simp[g0_,Nat.beq_refl]
 simp only[mrgT,hs,cond_true,b8_ h0,cond_false]at h
 exact h.congr fun i hi j hj z hz=>(Enc.mrg _ _ w F j z hj).2 hz
theorem ObjR.row_TR{ρ:Rho}{k:Rk}{es lo n n':Nat}{e e':Nat→Nat→Td}{s:Spot}{w:World}(hn:n'=n)(he: ∀i,lo≤i→i<n→ ∀j,j<es→ ∀F y,TR w F (e i j) y→TR w F (e' i j) y)(h:ObjR ρ (.row k es lo n e) s w):ObjR ρ (.row k es lo n' e') s w:=by
 subst hn
 obtain⟨k1,k2,k3,kz,k4⟩:=h
 refine⟨k1,k2,k3,kz,fun i h1 h2 j hj=> ?_⟩
 obtain⟨y,y1,y2,y3⟩:=k4 i h1 h2 j hj
 exact⟨y,y1,y2,he i h1 h2 j hj _ _ y3⟩
theorem G4_{α:Type}(l m:List α)(d:α){i:Nat}(h:i<l.length):(l++m).getD i d=l.getD i d:=by simp[List.getD,List.getElem?_append_left h]
theorem G5_{α:Type}(l m:List α)(d:α){i:Nat}(h:l.length≤i):(l++m).getD i d=m.getD (i-l.length) d:=by simp[List.getD,List.getElem?_append_right h]
theorem k6_{α:Type}[Enc α]{k:Rk}{l:List α}{a:α}{ts:List Td}{es n:Nat}{g:Nat→Nat→Td}{ρ:Rho}{s:Spot}{w:World}(hes:es=Enc.es α)(hn:n=l.length)(hg: ∀i j,g i j=encL l i j)(h: ∀j,j<Enc.es α→nthT ts j=Enc.enc a j)
  (ho:ObjR ρ (.row k es 0 (n+1) fun i j=>mrgT (Nat.blt i n) (g (0+i) j) (selT es 1 ts (i-n) j)) s w):ObjR ρ (.row k (Enc.es α) 0 (l++[a]).length (encL (l++[a]))) s w:=by
 subst hes hn
 refine ho.row_TR (by simp) fun i _ hi j hj F y ht=> ?_
 have e1:selT (Enc.es α) 1 ts (i-l.length) j=Enc.enc a j:=h j hj
 rw[e1,hg,Nat.zero_add]at ht
 by_cases hil:i<l.length
 ·have hb:Nat.blt i l.length=true:=by simpa using hil
  rw[hb]at ht
  show TR w F (Enc.enc ((l++[a]).getD i Enc.dflt) j) y
  rw[G4_ _ _ _ hil]
  exact(Enc.mrg _ _ w F j y hj).1 ht
 ·rw[m2_ hil]at ht
  have:i=l.length:=by omega
  subst this
  show TR w F (Enc.enc ((l++[a]).getD l.length Enc.dflt) j) y
  rw[G5_ _ _ _ (Nat.le_refl _),Nat.sub_self]
  exact(Enc.mrg _ _ w F j y hj).2 ht
theorem Seen.two{β:Bs}{f:AFr}{a b a' b':AObj}(ha:a.isOwn=a'.isOwn)(hb:b.isOwn=b'.isOwn)(h1: ∀ρ s w,ObjR ρ a s w→ObjR ρ a' s w)(h2: ∀ρ s w,ObjR ρ b s w→ObjR ρ b' s w):Seen β f (mkS [some a,some b]) f (mkS [some a',some b']):=
 Seen.objs rfl fun i o2 h=>match i with
  |0=>by cases h;exact⟨a,rfl,ha,h1⟩
  |1=>by cases h;exact⟨b,rfl,hb,h2⟩
  |_+2=>by cases h
theorem Seen.three{β:Bs}{f:AFr}{a b c a' b' c':AObj}(ha:a.isOwn=a'.isOwn)(hb:b.isOwn=b'.isOwn)(hc:c.isOwn=c'.isOwn)(h1: ∀ρ s w,ObjR ρ a s w→ObjR ρ a' s w)(h2: ∀ρ s w,ObjR ρ b s w→ObjR ρ b' s w)(h3: ∀ρ s w,ObjR ρ c s w→ObjR ρ c' s w):Seen β f (mkS [some a,some b,some c]) f (mkS [some a',some b',some c']):=
 Seen.objs rfl fun i o2 h=>match i with
  |0=>by cases h;exact⟨a,rfl,ha,h1⟩
  |1=>by cases h;exact⟨b,rfl,hb,h2⟩
  |2=>by cases h;exact⟨c,rfl,hc,h3⟩
  |_+3=>by cases h
def ownL{α:Type}[Enc α](l:List α)(c:Nat):Ra:= .own (Enc.es α) l.length c (encL l)
def rowO{α:Type}[Enc α](k:Rk)(l:List α):AObj:= .row k (Enc.es α) 0 l.length (encL l)
def aqm_(P:Program)(g:FuncId)(args:List Value)(objs:List (Option AObj))(a:Ans):Prop:= ∃(C:Told) (fuel n:Nat) (un:Nat→Nat) (lvs:Nat→List Nat) (ex:Nat→Kt→Prop),a8_ P C∧ ∀β:Bs,β.X.length=objs.length→lawE P C fuel n β un (cnOf objs.length lvs) ex g args (mkS objs) (ansE a)
def ok1(α:Type)[Enc α](p:List α→Nat→Bool)(ts:List Ta):Bool:=match ts with
 |[.cell t]=>okT α t&&p (a4_ α t) (nilT t)
 |_=>false
def ans1(α:Type)[Enc α](A:List α→Nat→Ans)(ts:List Ta):Ans:=match ts with
 |[.cell t]=>A (a4_ α t) (nilT t)
 |_=> .pan .nilIface
def ok2(α β:Type)[Enc α][Enc β](p:List α→Nat→List β→Nat→Bool)(ts:List Ta):Bool:=match ts with
 |[.cell t,.cell u]=>okT α t&&okT β u&&p (a4_ α t) (nilT t) (a4_ β u) (nilT u)
 |_=>false
def ans2(α β:Type)[Enc α][Enc β](A:List α→Nat→List β→Nat→Ans)(ts:List Ta):Ans:=match ts with
 |[.cell t,.cell u]=>A (a4_ α t) (nilT t) (a4_ β u) (nilT u)
 |_=> .pan .nilIface
theorem anS_{P:Program}{g:FuncId}{α β:Type}[Enc α][Enc β]{p:List α→Nat→List β→Nat→Bool}{A:List α→Nat→List β→Nat→Ans}(hm:P.follows .mixedOrders=true)
  (h: ∀(l:List α) (c:Nat) (m:List β) (d:Nat),l.length≤1000000→c≤1→m.length≤1000000→d≤1→p l c m d=true→aqm_ P g [.slice (some ⟨0,0,some 0⟩) l.length c,.slice (some ⟨1,0,some 0⟩) m.length d] [some (rowO .look l),some (rowO .look m)] (A l c m d)):c5_ P g (ok2 α β p) (ans2 α β A):=by
 intro ts hok w args' F hF ha
 unfold ok2 at hok
 split at hok
 ·rename_i t u
  simp only[Bool.and_eq_true]at hok
  obtain⟨⟨o1,o2⟩,o3⟩:=hok
  obtain⟨h1,h2⟩:=b7_ o1
  obtain⟨h3,h4⟩:=b7_ o2
  obtain⟨y,m,e,hy,hm'⟩:=ha.uncons
  obtain⟨z,m',rfl,hz,hm2⟩:=hm'.uncons
  have:=hm2.nil_inv
  subst this
  have ha':PW (TaR w F) [.cell (tdL (a4_ α t) (nilT t)),.cell (tdL (a4_ β u) (nilT u))] args'.toList:=by rw[e];exact PW.cons (h9_ o1 hy) (PW.cons (h9_ o2 hz) (PW.nil _))
  exact abn_ (ts:=[.cell (tdL (a4_ α t) (nilT t)),.cell (tdL (a4_ β u) (nilT u))]) hm (h _ _ _ _ h1 h2 h3 h4 o3) w args' F hF ha'
 ·cases hok
def okC(es:Nat)(ts:List Ta):Bool:=match ts with
 |[.cell (.fr es' n c e)]=>(Nat.beq es' es||(Nat.beq n 0&&Nat.beq c 1))&&Nat.ble n 1000000&&Nat.ble c 1
 |_=>false
def ansC(es:Nat)(ts:List Ta):Ans:=match ts with
 |[.cell (.fr _ n c e)]=> .ret (.cell (.own es n c e))
 |_=> .pan .nilIface
theorem l9_{P:Program}{g:FuncId}{es:Nat}(hm:P.follows .mixedOrders=true)
  (hk: ∀(n c:Nat) (f:Nat→Nat→Td) (β:Bs) (K:AE→ASt→Prop),lawE P noTold 100 20 β (fun _=>0) (cnOf 1 fun _=>[]) (fun _ _=>False) g [.slice (some ⟨0,0,some 0⟩) n c] (mkS [some (.row .look es 0 n f)]) K=
   br ((Nat.beq n 0&&Nat.beq c 1)==true) (K (.returned (.slice none 0 0)) (mkS [some (.row .look es 0 n f)])) (need (Nat.ble 0 0&&Nat.ble (0+n) n) (need (Nat.ble (0+n) 1000000)
    (K (.returned (.slice (some ⟨2,0,some 0⟩) n 0)) (((mkS [some (.row .look es 0 n f)]).new (.cells [] true es)).new (.row .mine es 0 n fun j=>f (0+j)))))))
  (hk0: ∀(es':Nat) (f:Nat→Nat→Td) (β:Bs) (K:AE→ASt→Prop),lawE P noTold 100 20 β (fun _=>0) (cnOf 1 fun _=>[]) (fun _ _=>False) g [.slice (some ⟨0,0,some 0⟩) 0 1] (mkS [some (.row .look es' 0 0 f)]) K=K (.returned (.slice none 0 0)) (mkS [some (.row .look es' 0 0 f)])):c5_ P g (okC es) (ansC es):=by
 intro ts hok w args' F hF ha
 unfold okC at hok
 split at hok
 ·rename_i es' n c e
  simp only[Bool.and_eq_true]at hok
  obtain⟨⟨h1,h2⟩,h3⟩:=hok
  have h2:=Nat.le_of_ble_eq_true h2
  refine abn_ hm ⟨noTold,100,20,fun _=>0,fun _=>[],fun _ _=>False,o8_ P,fun β hβ=> ?_⟩ w args' F hF ha
  by_cases h0:n=0∧c=1
  ·obtain⟨rfl,rfl⟩:=h0
   show lawE P noTold 100 20 β (fun _=>0) (cnOf 1 fun _=>[]) (fun _ _=>False) g [.slice (some ⟨0,0,some 0⟩) 0 1] (mkS [some (.row .look es' 0 0 e)]) (ansE (.ret (.cell (.own es 0 1 e))))
   rw[hk0]
   exact⟨[],.inl ⟨rfl,rfl,rfl,rfl⟩,List.nodup_nil⟩
  ·have h1:es'=es:=by
    rw[Bool.or_eq_true,Bool.and_eq_true]at h1
    rcases h1 with h1|h1
    ·exact Nat.eq_of_beq_eq_true h1
    ·exact absurd ⟨Nat.eq_of_beq_eq_true h1.1,Nat.eq_of_beq_eq_true h1.2⟩ h0
   subst h1
   have hb:((Nat.beq n 0&&Nat.beq c 1)==true)=false:=by
    cases hq:(Nat.beq n 0&&Nat.beq c 1)with
    |false=>rfl
    |true=>
     rw[Bool.and_eq_true]at hq
     exact absurd ⟨Nat.eq_of_beq_eq_true hq.1,Nat.eq_of_beq_eq_true hq.2⟩ h0
   have hc:=Nat.le_of_ble_eq_true h3
   show lawE P noTold 100 20 β (fun _=>0) (cnOf 1 fun _=>[]) (fun _ _=>False) g [.slice (some ⟨0,0,some 0⟩) n c] (mkS [some (.row .look es' 0 n e)]) (ansE (.ret (.cell (.own es' n c e))))
   rw[hk,hb]
   refine nd_ (by simp) (nd_ (by simpa using h2) ?_)
   exact⟨[2],.inr (.inl ⟨2,0,0,n,_,0,rfl,rfl,fun hn=>by omega,by simp only[ASt.new,b0_];exact a1_ _ _ _,Nat.le_refl _,by omega,fun i hi j hj=>by simp only[Nat.zero_add]⟩),by simp⟩
 ·cases hok
def bAns(b:Bool):Ans:= .ret (.cell (.sc (.bool b)))
theorem agK_(b:Bool)(st:ASt):ansE (bAns b) (.returned (.bool b)) st:=⟨[],⟨rfl,rfl,rfl⟩,List.nodup_nil⟩
theorem acp_(b:Bool):ansE (bAns b)=fun r _=>ansE (bAns b) r st0:=by funext r st;cases r<;>rfl
theorem ajX_{es n c:Nat}{e:Nat→Nat→Td}(hn:n≤1000000)(hc:c≤1):okC es [Ta.cell (Td.fr es n c e)]=true:=by
 simp only[okC,Bool.and_eq_true,Bool.or_eq_true]
 exact⟨⟨.inl (Nat.beq_refl _),Nat.ble_eq_true_of_le hn⟩,Nat.ble_eq_true_of_le hc⟩
theorem bleS(n:Nat):Nat.ble n n=true:=by simp
theorem encZ{α:Type}[Enc α](l:List α):(fun i=>encL l (0+i))=encL l:=by funext i;rw[Nat.zero_add]
def top1(t:Td)(k:Nat):Value×List AObj:=match t with
 | .sc x=>(x,[])
 | .fr es n c e=>(.slice (some ⟨k,0,some 0⟩) n c,[.row .still es 0 n e])
def tops:List Td→Nat→List Value×List AObj
 |[],_=>([],[])
 |t::l,k=>((top1 t k).1::(tops l (k+(top1 t k).2.length)).1,(top1 t k).2++(tops l (k+(top1 t k).2.length)).2)
theorem ahu_{w:World}{F:Nat→Prop}(hF: ∀b,F b→b<w.heap.size){t:Td}{y:Value}(h:TR w F t y): ∃S,(∀k,LayR w F (top1 t k).2 S)∧ ∀X k,At X S k→VR (fun i=>X[i]?) (top1 t k).1 y:=by
 cases t with
 |sc x=>exact⟨[],fun k=>LayR.nil w F,fun X k _=>VR.mono (o9_ _) h⟩
 |fr es n c e=>
  obtain⟨s,h1,h2,h3,h4⟩:=ajc_ h hF
  refine⟨[s],fun k=>⟨rfl,fun i s' o hs ho=> ?_⟩,fun X k hX=>h3 _ k s (hX 0 s rfl) (SameSpot.refl s)⟩
  cases i with
  |zero=>cases hs;cases ho;exact⟨h4,h2,h1⟩
  |succ i=>cases hs
theorem aht_{w:World}{F:Nat→Prop}(hF: ∀b,F b→b<w.heap.size): ∀{ts:List Td} {ys:List Value},PW (TR w F) ts ys→ ∃S,(∀k,LayR w F (tops ts k).2 S)∧ ∀X k,At X S k→VRL (fun i=>X[i]?) (tops ts k).1 ys:=by
 intro ts
 induction ts with
 |nil=>intro ys h;have:=h.nil_inv;subst this;exact⟨[],fun k=>LayR.nil w F,fun X k _=>VRL.nil _⟩
 |cons t ts ih=>
  intro ys h
  obtain⟨y,m,rfl,hy,hm⟩:=h.uncons
  obtain⟨S1,a1,a2⟩:=ahu_ hF hy
  obtain⟨S2,b1,b2⟩:=ih hm
  refine⟨S1++S2,fun k=>(a1 k).app (b1 _),fun X k hX=> ?_⟩
  obtain⟨h1,h2⟩:=hX.app
  rw[(a1 k).len]at h2
  exact VRL.cons (a2 X k h1) (b2 X _ h2)
theorem amg_{P:Program}{C:Told}{fuel n:Nat}{un:Nat→Nat}{lvs:Nat→List Nat}{ex:Nat→Kt→Prop}{g:FuncId}{ts:List Td}(hm:P.follows .mixedOrders=true)(hC:a8_ P C)
  (h: ∀β:Bs,β.X.length=(tops ts 0).2.length→lawE P C fuel n β un (cnOf (tops ts 0).2.length lvs) ex g (tops ts 0).1 (mkS ((tops ts 0).2.map some)) adW_) (w:World) (args':Array Value) (ha:PW (TR w (H8_ w)) ts args'.toList):
  Calls P g args' w fun e w'=>e= .returned (.bool true)∧Below w.heap.size w w':=by
 obtain⟨S,s1,s2⟩:=aht_ (F:=H8_ w) (fun b hb=>hb) ha
 have hlen:=(s1 0).len
 have hv:=s2 S 0 (fun i s hs=>by rw[Nat.zero_add];exact hs)
 have hl':=h ⟨w.heap.size,w,S,H8_ w,noW⟩ hlen
 rw[←hlen]at hl'
 refine(B7_ (F:=H8_ w) hm hC w hlen (fun k s o h1 h2=>((s1 0).ok k s o h1 h2).1 _ _) (fun s hs hvd=> ?_) (fun s hs b hb=> ?_) (fun b hb=>hb) hv hl').mono fun e w' he=>he.true (fun _ h=>h)
 ·obtain⟨i,hi⟩:=List.getElem?_of_mem hs
  have hil:=(List.getElem?_eq_some_iff.1 hi).1
  exact((s1 0).ok i s _ hi (List.getElem?_eq_getElem (by omega))).2.1 hvd
 ·obtain⟨i,hi⟩:=List.getElem?_of_mem hs
  have hil:=(List.getElem?_eq_some_iff.1 hi).1
  have:=((s1 0).ok i s _ hi (List.getElem?_eq_getElem (by omega))).2.2
  rw[this]at hb;exact hb
theorem anP_{H:Type}{enc:TypeId×Value→H}{P:Program}{w:World}{t:TypeId}{v:Value}{d:DataW H}{ps:List MemPlace}{b0:Nat}{α:Type}[Enc α]{sh:Nat→Sh}{e:TypeId}(hs: ∀c:Nat→Td,(∀j,j<Enc.es α→ShOk (sh j) (c j))→Enc.good α c)(ht:P.underlying t=some (.slice e))(hl:flatB P 9 t [.sl (Enc.es α) sh]=true)
  (hv:Value.okWide P w .any b0 t v) (h:DataW.Trod enc P w 0 (fun _=>true) true t v d ps): ∃u:Td,p2_ α u∧TR w (H8_ w) (tdL (a4_ α u) (nilT u)) v:=by
 obtain⟨n,cc,el,h1,h2⟩:=aam_ ht hl hv h
 have hg:=aiM_ hs h2
 exact⟨_,hg,f7_ hg h1⟩
def memL(st:ASt):List (Option AObj):=(upto 0 st.next).map st.h.get
def outK(K:AE→List (Option AObj)→Prop)(r:AE)(st:ASt):Prop:=K r (memL st)
theorem aiw_{st:ASt}{k:Nat}{o:AObj}(h:(mkS (memL st)).h.get k=some o):st.h.get k=some o:=by
 rw[b5_]at h
 unfold memL at h
 rw[List.getElem?_map]at h
 rcases Nat.lt_or_ge k st.next with hk|hk
 ·rw[M3_ _ _ _ hk,Nat.zero_add]at h
  exact h
 ·rw[List.getElem?_eq_none (by rw[A5_];exact hk)]at h
  cases h
theorem PostE.mono{β:Bs}{K K':AE→ASt→Prop}{e:Ending}{w':World}(hK: ∀r st,K r st→K' r st)(h:PostE β K e w'):PostE β K' e w':=by
 obtain⟨⟨r,st',ρ',h1,h2,h3⟩,h4⟩:=h
 exact⟨⟨r,st',ρ',h1,hK _ _ h2,h3⟩,h4⟩
def a6_(l l2:List (Option AObj)):Prop:=l2.length=l.length∧ ∀(i:Nat) o2,l2[i]? =some (some o2)→ ∃o1,l[i]? =some (some o1)∧o1.isOwn=o2.isOwn∧ ∀ρ s w,ObjR ρ o1 s w→ObjR ρ o2 s w
theorem a6_.refl(l:List (Option AObj)):a6_ l l:=⟨rfl,fun i o h=>⟨o,h,rfl,fun _ _ _ h=>h⟩⟩
def outR(K:AE→ASt→Prop):AE→ASt→Prop:=outK fun r l=> ∃l2,a6_ l l2∧K r (mkS l2)
theorem PostE.objs{β:Bs}{K:AE→ASt→Prop}{e:Ending}{w':World}(h:PostE β (outR K) e w'):PostE β K e w':=by
 obtain⟨⟨r,st',ρ',h1,⟨l2,⟨hlen,hobj⟩,hK⟩,hw,hwf,hfr,how,hfz⟩,hb⟩:=h
 have hn:(mkS l2).next=st'.next:=by
  show l2.length=_
  rw[hlen];simp[memL,A5_]
 have hget: ∀k o,(mkS l2).h.get k=some o→ ∃o1,st'.h.get k=some o1∧o1.isOwn=o.isOwn∧ ∀ρ s w,ObjR ρ o1 s w→ObjR ρ o s w:=by
  intro k o e
  rw[b5_]at e
  have e':l2[k]? =some (some o):=by
   cases hq:l2[k]? with
   |none=>rw[hq]at e;cases e
   |some u=>rw[hq]at e;cases u with
    |none=>cases e
    |some v=>cases e;rfl
  obtain⟨o1,h1,h2,h3⟩:=hobj k o e'
  exact⟨o1,aiw_ (by rw[b5_,h1];rfl),h2,h3⟩
 have hown: ∀b,Own (mkS l2).h.get ρ' b→Own st'.h.get ρ' b:=fun b hb=>by
  obtain⟨k,o,t,e,e0,e2,e3⟩:=hb
  obtain⟨o1,h1,h2,_⟩:=hget k o e
  exact⟨k,o1,t,h1,by rw[h2];exact e0,e2,e3⟩
 refine⟨⟨r,mkS l2,ρ',h1,hK,⟨hw.blk,fun k o e=> ?_,fun x y oa ob sa sb ea eb eo ra rb va vb heq=> ?_,fun b hb=>⟨(hw.fz b hb).1,fun hb2=>(hw.fz b hb).2 (hown b hb2)⟩⟩,fun k o e=> ?_,by rw[hn];exact hfr,fun b hb=>how b (hown b hb),hfz⟩,hb⟩
 ·obtain⟨o1,h1,_,h3⟩:=hget k o e
  obtain⟨s,e1,e2⟩:=hw.obj k o1 h1
  exact⟨s,e1,h3 _ _ _ e2⟩
 ·obtain⟨oa',ea',qa,_⟩:=hget x oa ea
  obtain⟨ob',eb',qb,_⟩:=hget y ob eb
  exact hw.inj x y oa' ob' sa sb ea' eb' (by rw[qa,qb];exact eo) ra rb va vb heq
 ·rw[hn]
  obtain⟨o1,h1,_⟩:=hget k o e
  exact hwf k o1 h1
theorem C7_{P:Program}{g:FuncId}{ts:List Ta}{a:Ans}(hm:P.follows .mixedOrders=true)
  (h: ∃(C:Told) (fuel n:Nat) (un:Nat→Nat) (lvs:Nat→List Nat) (ex:Nat→Kt→Prop),a8_ P C∧ ∀β:Bs,β.X.length=(layA ts 0).2.length→lawE P C fuel n β un (cnOf (layA ts 0).2.length lvs) ex g (layA ts 0).1 (mkS ((layA ts 0).2.map some)) (outR (ansE a)))
  (w:World) (args':Array Value) (F:Nat→Prop) (hF: ∀b,F b→b<w.heap.size) (ha:PW (TaR w F) ts args'.toList):Calls P g args' w fun e w'=>AnsR w F a e w':=by
 obtain⟨C,fuel,n,un,lvs,ex,hC,hl⟩:=h
 obtain⟨S,s1,s2⟩:=P1_ hF ha
 have hlen:=(s1 0).len
 have hv:=s2 S 0 (fun i s hs=>by rw[Nat.zero_add];exact hs)
 have hl':=hl ⟨w.heap.size,w,S,F,noW⟩ hlen
 rw[←hlen]at hl'
 refine(B7_ (F:=F) hm hC w hlen (fun k s o h1 h2=>((s1 0).ok k s o h1 h2).1 _ _) (fun s hs hvd=> ?_) (fun s hs b hb=> ?_) hF hv hl').mono fun e w' he=>he.objs.ans
 ·obtain⟨i,hi⟩:=List.getElem?_of_mem hs
  have hil:=(List.getElem?_eq_some_iff.1 hi).1
  exact((s1 0).ok i s _ hi (List.getElem?_eq_getElem (by omega))).2.1 hvd
 ·obtain⟨i,hi⟩:=List.getElem?_of_mem hs
  have hil:=(List.getElem?_eq_some_iff.1 hi).1
  have:=((s1 0).ok i s _ hi (List.getElem?_eq_getElem (by omega))).2.2
  rw[this]at hb;exact hb
def atL(n k:Nat)(o:AObj):List (Option AObj):=(List.replicate n none).set k (some o)
theorem amS_{n k:Nat}{o:AObj}(h:k<n):(mkS (atL n k o)).h.get k=some o:=by
 rw[b5_];simp[atL,h]
theorem apZ_{l:List (Option AObj)}{k:Nat}{o1 o2:AObj}(h:l[k]? =some (some o1))(ho:o1.isOwn=o2.isOwn)(hr: ∀ρ s w,ObjR ρ o1 s w→ObjR ρ o2 s w):a6_ l (atL l.length k o2):=by
 refine⟨by simp[atL],fun i o e=> ?_⟩
 unfold atL at e
 rw[List.getElem?_set]at e
 by_cases hk:k=i
 ·subst hk
  have hl:=(List.getElem?_eq_some_iff.1 h).1
  simp[hl]at e
  subst e
  exact⟨o1,h,ho,hr⟩
 ·rw[if_neg hk,List.getElem?_replicate]at e
  split at e<;>cases e
theorem U7_{α:Type}[Enc α]{L:List α}{N k n c c0:Nat}(hk:k<N)(hn:n=L.length)(hc:n=0→c0=c):raE (mkS (atL N k (rowO .mine L))) (ownL L c) (.slice (some ⟨k,0,some 0⟩) n c0) [k]:=by
 subst hn
 exact .inr (.inl ⟨k,0,0,L.length,encL L,c0,rfl,rfl,hc,amS_ hk,Nat.le_refl _,by omega,fun i hi j hj=>by rw[Nat.zero_add]⟩)
theorem Seen.void{β:Bs}{f:AFr}{l:List (Option AObj)}(es:Nat)(e:Nat→Nat→Td):Seen β f (mkS l) f (mkS (l++[some (.row .mine es 0 0 e)])):=by
 intro ρ a w hr
 have hfn:ρ l.length=none:=hr.fresh _ (Nat.le_refl _)
 have m:=Mv.rowVoid (w':=w) (es:=es) (f:=e) hr.wr hfn rfl rfl rfl rfl
 have hg:(mkS (l++[some (.row .mine es 0 0 e)])).h.get=upd (mkS l).h.get l.length (some (.row .mine es 0 0 e)):=by
  funext k
  rw[b5_]
  by_cases hk:k=l.length
  ·subst hk;rw[a1_,List.getElem?_append_right (Nat.le_refl _)];simp
  ·rw[a2_ _ _ hk,b5_]
   rcases Nat.lt_or_ge k l.length with h1|h1
   ·rw[List.getElem?_append_left h1]
   ·rw[List.getElem?_eq_none (by simp;omega),List.getElem?_eq_none h1]
 have hlo:LoS (mkS l) (mkS (l++[some (.row .mine es 0 0 e)])):=by
  refine⟨by simp[mkS],Nat.le_refl _,fun x h1 _=> ?_,fun x o' e'=> ?_⟩
  ·rw[hg];exact a2_ _ _ (by have:x<l.length:=h1;omega)
  ·rw[hg]at e'
   by_cases hx:x=l.length
   ·exact .inr (by subst hx;simp[mkS])
   ·rw[a2_ _ _ hx]at e';exact .inl ⟨o',e'⟩
 have hnx:(mkS (l++[some (.row .mine es 0 0 e)])).next=(mkS l).next+1:=by simp[mkS]
 exact⟨_,hr.step hlo ⟨hr.fr.size,fun t v ht=>by obtain⟨v',h2,h3⟩:=hr.fr.tmp t v ht;exact⟨v',h2,h3.mono m.ext⟩,hr.fr.defs.mono m.ext⟩ (by rw[hg,hnx];exact m)⟩
theorem ObjR.nilCell{ρ:Rho}{s:Spot}{w:World}{cs:List Value}{ex:Bool}{es j k:Nat}(hj:cs[j]? =some (.slice none 0 0))(h:ObjR ρ (.cells cs ex es) s w):ObjR ρ (.cells (cs.set j (z1_ k)) ex es) s w:=by
 obtain⟨h0,h1,h2,C,t,fr,h3,h4,h5,h6,h7⟩:=h
 refine⟨h0,h1,h2,C,t,fr,h3,h4,h5,by rw[List.length_set];exact h6,fun i x hx=> ?_⟩
 rw[List.getElem?_set]at hx
 by_cases hij:j=i
 ·subst hij
  have hl:=(List.getElem?_eq_some_iff.1 hj).1
  simp[hl]at hx
  subst hx
  obtain⟨y,hy,hv⟩:=h7 j _ hj
  cases hv
  exact⟨_,hy,.sliceN _ _⟩
 ·rw[if_neg hij]at hx
  exact h7 i x hx
end Go.Proofs.YtachglcffimmeaaGreat.Ev
end
