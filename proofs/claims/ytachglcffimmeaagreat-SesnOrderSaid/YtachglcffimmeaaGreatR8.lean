/-
  The checks that the evaluator makes of a region that draws its order, and what they give.
-/
import Derived.Test.YtachglcffimmeaaGreatR7
import Derived.Orders
set_option linter.unusedVariables false
set_option linter.unusedSimpArgs false
namespace Go.Proofs.YtachglcffimmeaaGreat.Ev
open Go
theorem l7_(m j:Nat):f4_ m j=m.testBit j:=by
 unfold f4_ Nat.testBit
 rw[Nat.and_comm,Nat.and_one_is_mod]
 rcases Nat.mod_two_eq_zero_or_one (m>>>j)with h|h<;>rw[h]<;>rfl
theorem L9_(e:Edge):v6_ e=Region.binds .any e:=by
 unfold v6_ Region.binds
 cases e.ground<;>rfl
theorem afJ_{k:Nat}: ∀{es:List Edge} {acc:List Nat},f4_ (W3_ es acc) k=true→ ∃e∈es,v6_ e=true∧(k=e.on∨f4_ (acc.getD e.on 0) k=true):=by
 intro es
 induction es with
 |nil=>intro acc h;simp[W3_,l7_]at h
 |cons e es ih=>
  intro acc h
  simp only[W3_]at h
  cases hb:v6_ e with
  |false=>
   rw[hb]at h
   obtain⟨e',h1,h2⟩:=ih h
   exact⟨e',by simp[h1],h2⟩
  |true=>
   rw[hb]at h
   simp only[cond_true]at h
   rw[l7_,Nat.testBit_or,Nat.testBit_or,Bool.or_eq_true,Bool.or_eq_true]at h
   rcases h with(h|h)|h
   ·obtain⟨e',h1,h2⟩:=ih (acc:=acc) (by rw[l7_];exact h)
    exact⟨e',by simp[h1],h2⟩
   ·have:e.on=k:=by simpa [Nat.testBit_two_pow]using h
    exact⟨e,by simp,hb,.inl this.symm⟩
   ·exact⟨e,by simp,hb,.inr (by rw[l7_];exact h)⟩
theorem v7_: ∀(l:List Oper) (acc:List Nat),(ancL l acc).length=acc.length+l.length∧(∀i,i<acc.length→(ancL l acc)[i]? =acc[i]?)∧
  ∀(k:Nat) (o:Oper),l[k]? =some o→ ∃pre,pre.length=acc.length+k∧(∀i,i<pre.length→(ancL l acc)[i]? =pre[i]?)∧(ancL l acc)[acc.length+k]? =some (W3_ o.after.toList pre):=by
 intro l
 induction l with
 |nil=>intro acc;exact⟨by simp[ancL],fun i _=>rfl,fun k o h=>by simp at h⟩
 |cons o l ih=>
  intro acc
  obtain⟨h1,h2,h3⟩:=ih (acc++[W3_ o.after.toList acc])
  simp only[ancL]
  refine⟨by rw[h1];simp;omega,fun i hi=> ?_,fun k o' hk=> ?_⟩
  ·rw[h2 i (by simp;omega),List.getElem?_append_left hi]
  ·cases k with
   |zero=>
    simp only[List.getElem?_cons_zero,Option.some.injEq]at hk
    subst hk
    refine⟨acc,by simp,fun i hi=> ?_,?_⟩
    ·rw[h2 i (by simp;omega),List.getElem?_append_left hi]
    ·rw[h2 _ (by simp),List.getElem?_append_right (by omega)];simp
   |succ k=>
    obtain⟨pre,p1,p2,p3⟩:=h3 k o' (by simpa using hk)
    refine⟨pre,by rw[p1];simp;omega,p2,?_⟩
    rw[←p3]
    congr 1
    simp;omega
def d9_(all:List Oper)(j:Nat):Nat:=(ancL all []).getD j 0
def Anc(all:List Oper)(j i:Nat):Prop:=f4_ (d9_ all j) i=true
theorem acu_{all:List Oper}{j k:Nat}{o:Oper}(ho:all[j]? =some o)(h:Anc all j k)(hb: ∀e∈o.after.toList,v6_ e=true→e.on<j): ∃e∈o.after.toList,v6_ e=true∧(k=e.on∨Anc all e.on k):=by
 obtain⟨h1,h2,h3⟩:=v7_ all []
 obtain⟨pre,p1,p2,p3⟩:=h3 j o ho
 simp only[List.length_nil,Nat.zero_add]at p1 p3
 unfold Anc d9_ at h ⊢
 rw[List.getD_eq_getElem?_getD,p3]at h
 obtain⟨e,e1,e2,e3⟩:=afJ_ (by simpa using h)
 refine⟨e,e1,e2,?_⟩
 rcases e3 with e3|e3
 ·exact .inl e3
 ·right
  have:=hb e e1 e2
  rw[List.getD_eq_getElem?_getD]at e3 ⊢
  rw[p2 e.on (by omega)]
  exact e3
theorem adt_{all:List Oper}{j:Nat}{o:Oper}(ho:all[j]? =some o):(all.zip (ancL all []))[j]? =some (o,d9_ all j):=by
 obtain⟨h1,h2,h3⟩:=v7_ all []
 obtain⟨pre,p1,p2,p3⟩:=h3 j o ho
 simp only[List.length_nil,Nat.zero_add]at p3
 rw[List.getElem?_zip_eq_some]
 exact⟨ho,by unfold d9_;rw[List.getD_eq_getElem?_getD,p3];simp⟩
theorem s8_{all:List Oper}: ∀{n:Nat},M0_ all n=true→ ∀(j:Nat) (o:Oper),j<n→all[j]? =some o→(∀e∈o.after.toList,v6_ e=true→e.on<j)∧(∀cs b,o.op≠ .select cs b)∧ ∀c,o.op≠ .defer c:=by
 intro n
 induction n with
 |zero=>intro _ j o h;omega
 |succ n ih=>
  intro h j o hj ho
  simp only[M0_,Bool.and_eq_true]at h
  rcases Nat.lt_or_ge j n with hl|hl
  ·exact ih h.2 j o hl ho
  ·have:j=n:=by omega
   subst this
   have h1:=h.1
   rw[ho]at h1
   simp only[Bool.and_eq_true,List.all_eq_true,Bool.or_eq_true,Bool.not_eq_true']at h1
   refine⟨fun e he hb=> ?_,fun cs b e=> ?_,fun c e=> ?_⟩
   ·rcases h1.1 e he with h2|h2
    ·rw[hb]at h2;cases h2
    ·exact v5_ h2
   ·rw[e]at h1;simp at h1
   ·rw[e]at h1;simp at h1
theorem aoR_{all:List Oper}{n:Nat}(hb:M0_ all n=true): ∀j,j<n→ ∀k,Anc all j k→k<j:=by
 intro j
 induction j using Nat.strongRecOn with
 |_ j ih=>
  intro hj k h
  cases ho:all[j]? with
  |none=>
   exfalso
   obtain⟨h1,_,_⟩:=v7_ all []
   unfold Anc d9_ at h
   rw[List.getD_eq_getElem?_getD,List.getElem?_eq_none (by rw[h1];have:=List.getElem?_eq_none_iff.1 ho;simpa using this)]at h
   simp[l7_]at h
  |some o=>
   have hbk:=(s8_ hb j o hj ho).1
   obtain⟨e,e1,e2,e3⟩:=acu_ ho h hbk
   have:=hbk e e1 e2
   rcases e3 with e3|e3
   ·omega
   ·have:=ih e.on (by omega) (by omega) k e3;omega
theorem abX_(l:List Nat)(d:Option Nat):hasN l d=true↔ ∃t,d=some t∧t∈l:=by
 unfold hasN
 cases d with
 |none=>simp
 |some d=>
  simp only[List.any_eq_true,Option.some.injEq,exists_eq_left']
  constructor
  ·rintro⟨x,h1,h2⟩
   have:=Nat.eq_of_beq_eq_true h2
   subst this;exact h1
  ·intro h;exact⟨d,h,Nat.beq_refl d⟩
theorem aeJ_(a b:Option Nat):acJ_ a b=true↔ ∃t,a=some t∧b=some t:=by
 unfold acJ_
 split
 ·rename_i x y
  constructor
  ·intro h;have:=Nat.eq_of_beq_eq_true h;subst this;exact⟨x,rfl,rfl⟩
  ·rintro⟨t,h1,h2⟩;cases h1;cases h2;exact Nat.beq_refl _
 ·rename_i hne
  constructor
  ·intro h;cases h
  ·rintro⟨t,h1,h2⟩;exact absurd h2 (by subst h1;intro h3;exact hne t t rfl h3)
theorem T2_{ops:List Oper}: ∀{l:List (Oper×Nat)} {seen:List (Nat×List Nat×Option Nat)} {j0:Nat},M9_ ops l seen j0=true→
  (∀(k:Nat) (o:Oper) (m:Nat),l[k]? =some (o,m)→ ∀r∈seen,f4_ m r.1=true∨(¬hasN (e0_ ops o) r.2.2=true∧ ¬hasN r.2.1 o.dst=true∧ ¬acJ_ o.dst r.2.2=true))∧
  ∀(i k:Nat) (oi:Oper) (mi:Nat) (o:Oper) (m:Nat),i<k→l[i]? =some (oi,mi)→l[k]? =some (o,m)→f4_ m (j0+i)=true∨(¬hasN (e0_ ops o) oi.dst=true∧ ¬hasN (e0_ ops oi) o.dst=true∧ ¬acJ_ o.dst oi.dst=true):=by
 intro l
 induction l with
 |nil=>intro seen j0 _;exact⟨fun k o m h=>by simp at h,fun i k oi mi o m _ h=>by simp at h⟩
 |cons p l ih=>
  intro seen j0 h
  obtain⟨o0,m0⟩:=p
  simp only[M9_,Bool.and_eq_true]at h
  obtain⟨h1,h2⟩:=h
  obtain⟨i1,i2⟩:=ih h2
  have key: ∀r∈seen,f4_ m0 r.1=true∨(¬hasN (e0_ ops o0) r.2.2=true∧ ¬hasN r.2.1 o0.dst=true∧ ¬acJ_ o0.dst r.2.2=true):=by
   intro r hr
   rw[List.all_eq_true]at h1
   have:=h1 r hr
   rw[Bool.or_eq_true]at this
   rcases this with h|h
   ·exact .inl h
   ·right
    simp only[Bool.not_eq_true',Bool.or_eq_false_iff]at h
    exact⟨by rw[h.1.1];simp,by rw[h.1.2];simp,by rw[h.2];simp⟩
  refine⟨fun k o m hk r hr=> ?_,fun i k oi mi o m hik hi hk=> ?_⟩
  ·cases k with
   |zero=>simp at hk;obtain⟨rfl,rfl⟩:=hk;exact key r hr
   |succ k=>exact i1 k o m (by simpa using hk) r (by simp[hr])
  ·cases k with
   |zero=>omega
   |succ k=>
    cases i with
    |zero=>
     simp at hi;obtain⟨rfl,rfl⟩:=hi
     exact i1 k o m (by simpa using hk) (j0,e0_ ops o0,o0.dst) (by simp)
    |succ i=>
     have:=i2 i k oi mi o m (by omega) (by simpa using hi) (by simpa using hk)
     rw[show j0+(i+1)=j0+1+i by omega]
     exact this
theorem y7_{all:List Oper}(h:g3_ all=true):M0_ all all.length=true∧
  ∀(i j:Nat) (oi oj:Oper),i<j→all[i]? =some oi→all[j]? =some oj→ ¬Anc all j i→(∀t,oi.dst=some t→t∉e0_ all oj∧oj.dst≠some t)∧ ∀t,oj.dst=some t→t∉e0_ all oi:=by
 unfold g3_ at h
 simp only[Bool.and_eq_true]at h
 refine⟨h.2,fun i j oi oj hij hi hj hna=> ?_⟩
 have:=(T2_ h.1).2 i j oi _ oj _ hij (adt_ hi) (adt_ hj)
 rw[Nat.zero_add]at this
 rcases this with h1|⟨h1,h2,h3⟩
 ·exact absurd h1 hna
 ·refine⟨fun t ht=>⟨fun hm=>h1 ((abX_ _ _).2 ⟨t,ht,hm⟩),fun he=>h3 ((aeJ_ _ _).2 ⟨t,he,ht⟩)⟩,fun t ht hm=>h2 ((abX_ _ _).2 ⟨t,ht,hm⟩)⟩
def EndR(ρ:Rho):AE→Ending→Prop
 | .returned v,e=> ∃v',e= .returned v'∧VR ρ v v'
 | .panicked v,e=> ∃v',e= .panicked [{v:=v',recovered:=false}]∧VR ρ v v'
def Wf(st:ASt):Prop:= ∀x o,st.h.get x=some o→x<st.next
theorem LoS.wf{st st':ASt}(h:LoS st st')(hw:Wf st):Wf st':=fun x o e=>by
 obtain⟨h1,_,_,h4⟩:=h
 rcases h4 x o e with⟨o',h5⟩|h5
 ·have:=hw x o' h5;omega
 ·omega
def w0_(P:Program)(self:Self):Prop:= ∀g args st r st',Wf st→self g args st= .ok (r,st')→LoS st st'∧ ∀ρ w (args':Array Value),VRL ρ args args'.toList→WR ρ st.h.get w→b6_ ρ st.next st'.next→
 Calls P g args' w fun e w'=> ∃ρ',EndR ρ' r e∧Mv ρ ρ' st.h.get st'.h.get st.next st'.next w w'
theorem aaG_{P:Program}{self:Self}(hs:w0_ P self){f:AFr}{st st':ASt}{o:Oper}{v:Value}(hwf:Wf st)(h:P9_ P self f st o= .ok (v,st')):LoS st st'∧ ∀ρ w a,FrR ρ f a→WR ρ st.h.get w→b6_ ρ st.next st'.next→
  ∀(K:Act→World→Prop) (Q:Exit→Act→World→Prop),(∀ρ' v' w',VR ρ' v v'→Mv ρ ρ' st.h.get st'.h.get st.next st'.next w w'→K (a.put o.dst v') w')→o.wp P a w K Q:=by
 unfold P9_ at h
 split at h
 ·rename_i v1 st1 ha
  cases h
  obtain⟨h1,h2⟩:=m4_ ha
  refine⟨h1,fun ρ w a hf hw hfr K Q hK=> ?_⟩
  obtain⟨ρ',v',w',hr,hv,hm⟩:=h2 ρ w a hf hw hfr
  have:=hK ρ' v' w' hv hm
  unfold Oper.wp
  rcases hr with hr|⟨hr,rfl⟩
  ·rw[hr];exact this
  ·rw[hr];exact this
 ·rename_i g args ha
  have h2:=m4_ ha
  split at h
  ·rename_i v1 st1 hg
   cases h
   obtain⟨k1,k2⟩:=hs g args st _ _ hwf hg
   refine⟨k1,fun ρ w a hf hw hfr K Q hK=> ?_⟩
   obtain⟨args',hr,hv⟩:=h2 ρ w a hf hw
   unfold Oper.wp
   rw[hr]
   refine(k2 ρ w args' hv hw hfr).mono fun e w' he=> ?_
   obtain⟨ρ',⟨v',rfl,hv'⟩,hm⟩:=he
   exact hK ρ' v' w' hv' hm
  ·cases h
  ·cases h
 ·cases h
 ·cases h
theorem aeR_(f:AFr): ∀(l:List Nat) (t:Nat),(N5_ f l).get t=if t∈l then f.tmps.get t else none:=by
 intro l
 induction l with
 |nil=>intro t;rfl
 |cons x l ih=>
  intro t
  simp only[N5_]
  split
  ·rename_i v hv
   rw[b0_]
   by_cases ht:t=x
   ·subst ht;rw[a1_];simp[hv]
   ·rw[a2_ _ _ ht,ih];simp[ht]
  ·rename_i hv
   rw[ih]
   by_cases ht:t=x
   ·subst ht;simp[hv]
   ·simp[ht]
theorem aeQ_{ρ:Rho}{f:AFr}{a:Act}{l:List Nat}(hs:a.tmps.size=f.n)(hd:y3_ ρ f.defers a.defers)(h: ∀t∈l,∀v,f.tmps.get t=some v→ ∃v',a.tmps[t]? =some v'∧VR ρ v v'):FrR ρ ⟨f.n,N5_ f l,f.defers⟩ a:=by
 refine⟨hs,fun t v e=> ?_,hd⟩
 simp only[aeR_]at e
 split at e
 ·rename_i ht;exact h t ht v e
 ·cases e
theorem adi_: ∀(n s:Nat) (h:Tr AObj) (x:Nat),(acj_ n s h).get x=if s≤x∧x<s+n then none else h.get x:=by
 intro n
 induction n with
 |zero=>intro s h x;rw[if_neg (by omega)];rfl
 |succ n ih=>
  intro s h x
  simp only[acj_,ih,b0_]
  by_cases hx:x=s
  ·subst hx;rw[if_neg (by omega),a1_,if_pos (by omega)]
  ·rw[a2_ _ _ hx]
   by_cases h2:s+1≤x∧x<s+1+n
   ·rw[if_pos h2,if_pos (by omega)]
   ·rw[if_neg h2,if_neg (by omega)]
theorem v2_: ∀(n s:Nat) (g h:Tr AObj) (x:Nat),(agz_ n s g h).get x=if s≤x∧x<s+n then g.get x else h.get x:=by
 intro n
 induction n with
 |zero=>intro s g h x;rw[if_neg (by omega)];rfl
 |succ n ih=>
  intro s g h x
  simp only[agz_,ih,b0_]
  by_cases hx:x=s
  ·subst hx;rw[if_neg (by omega),a1_,if_pos (by omega)]
  ·rw[a2_ _ _ hx]
   by_cases h2:s+1≤x∧x<s+1+n
   ·rw[if_pos h2,if_pos (by omega)]
   ·rw[if_neg h2,if_neg (by omega)]
theorem agA_: ∀(l:List Nat) (g h:Tr AObj) (x:Nat),(agB_ l g h).get x=if x∈l then g.get x else h.get x:=by
 intro l
 induction l with
 |nil=>intro g h x;simp[agB_]
 |cons a l ih=>
  intro g h x
  simp only[agB_,ih,b0_]
  by_cases hx:x∈l
  ·rw[if_pos hx,if_pos (by simp[hx])]
  ·rw[if_neg hx]
   by_cases hxa:x=a
   ·subst hxa;rw[a1_,if_pos (by simp)]
   ·rw[a2_ _ _ hxa,if_neg (by simp[hx,hxa])]
theorem Y0_: ∀(l:List Nat) (g h' h:Tr AObj) (x:Nat),(adk_ l g h' h).get x=if x∈l∧(g.get x).isSome=true then h'.get x else h.get x:=by
 intro l
 induction l with
 |nil=>intro g h' h x;simp[adk_]
 |cons a l ih=>
  intro g h' h x
  simp only[adk_]
  split
  ·rename_i o ho
   rw[ih,b0_]
   by_cases hx:x∈l∧(g.get x).isSome=true
   ·rw[if_pos hx,if_pos ⟨by simp[hx.1],hx.2⟩]
   ·rw[if_neg hx]
    by_cases hxa:x=a
    ·subst hxa;rw[a1_,if_pos ⟨by simp,by simp[ho]⟩]
    ·rw[a2_ _ _ hxa,if_neg (by simp[hxa];simpa using hx)]
  ·rename_i ho
   rw[ih]
   by_cases hx:x∈l∧(g.get x).isSome=true
   ·rw[if_pos hx,if_pos ⟨by simp[hx.1],hx.2⟩]
   ·rw[if_neg hx,if_neg]
    intro h2
    apply hx
    refine⟨?_,h2.2⟩
    rcases List.mem_cons.1 h2.1 with h3|h3
    ·subst h3;rw[ho]at h2;simp at h2
    ·exact h3
theorem abC_{m:Nat}: ∀{recs:List Rec} {h:Tr AObj} {x:Nat} {o:AObj},(redu m recs h).get x=some o→h.get x=some o∧ ∀r∈recs,f4_ m r.j=false→ ¬(r.s≤x∧x<r.e):=by
 intro recs
 induction recs with
 |nil=>intro h x o e;exact⟨e,by simp⟩
 |cons r l ih=>
  intro h x o e
  simp only[redu]at e
  obtain⟨h1,h2⟩:=ih e
  cases hb:f4_ m r.j with
  |true=>
   rw[hb]at h1
   refine⟨h1,fun r' hr'=> ?_⟩
   rcases List.mem_cons.1 hr' with h3|h3
   ·subst h3;intro h4;rw[hb]at h4;cases h4
   ·exact h2 r' h3
  |false=>
   rw[hb]at h1
   simp only[cond_false,adi_]at h1
   split at h1
   ·cases h1
   ·rename_i hn
    refine⟨h1,fun r' hr'=> ?_⟩
    rcases List.mem_cons.1 hr' with h3|h3
    ·subst h3;intro _ h4;exact hn (by omega)
    ·exact h2 r' h3
theorem ahV_{m:Nat}: ∀{recs:List Rec} {h:Tr AObj},recs.all (fun r=>f4_ m r.j)=true→redu m recs h=h:=by
 intro recs
 induction recs with
 |nil=>intro h _;rfl
 |cons r l ih=>
  intro h ha
  simp only[List.all_cons,Bool.and_eq_true]at ha
  simp only[redu,ha.1,cond_true]
  exact ih ha.2
theorem f0_{m:Nat}{recs:List Rec}{h:Tr AObj}{fp:Option (List Nat)}{x:Nat}{o:AObj}(e:(d1_ m recs h fp).get x=some o):
  h.get x=some o∧(∀r∈recs,f4_ m r.j=false→ ¬(r.s≤x∧x<r.e))∧ ∀l,fp=some l→x∈l:=by
 unfold d1_ at e
 split at e
 ·rename_i l
  rw[agA_]at e
  split at e
  ·rename_i hx
   obtain⟨h1,h2⟩:=abC_ e
   exact⟨h1,h2,fun l' hl=>by cases hl;exact hx⟩
  ·cases e
 ·obtain⟨h1,h2⟩:=abC_ e
  exact⟨h1,h2,fun l' hl=>by cases hl⟩
theorem ajv_(i:It)(g r:Mem)(h1: ∀x,i.dom x→r x=i.ha x)(h2: ∀x,¬i.dom x→r x=g x):r=i.upd g:=by
 funext x
 unfold It.upd
 by_cases h:i.dom x
 ·rw[if_pos h,h1 x h]
 ·rw[if_neg h,h2 x h]
theorem afI_{m:Nat}{recs:List Rec}{st st':ASt}{fp:Option (List Nat)}(hlo:LoS ⟨st.next,d1_ m recs st.h fp,big⟩ st')(hwf: ∀x o,st.h.get x=some o→x<st.next)(hfp:fp=none→st.next≤st'.lo)(dst:Option Nat)(v:Value)(looks:List Nat):
  (j1_ m recs st.h (d1_ m recs st.h fp) st'.h st.next st'.next fp).get=(It.mk st.next st'.next (d1_ m recs st.h fp).get st'.h.get dst v looks).upd st.h.get:=by
 obtain⟨l1,l2,l3,l4⟩:=hlo
 simp only at l1 l2 l3 l4
 refine ajv_ _ _ _ (fun x hd=> ?_) (fun x hd=> ?_)
 ·cases fp with
  |some l=>
   simp only[j1_,v2_,Y0_]
   by_cases hr:st.next≤x∧x<st'.next
   ·rw[if_pos (by omega)]
   ·rw[if_neg (by omega)]
    rcases hd with⟨o,hg⟩|hd
    ·rw[if_pos ⟨(f0_ hg).2.2 l rfl,by rw[show(d1_ m recs st.h (some l)).get x=some o from hg];rfl⟩]
    ·exact absurd hd hr
  |none=>
   have hlo:=hfp rfl
   simp only[j1_]
   cases ha:recs.all fun r=>f4_ m r.j with
   |true=>rfl
   |false=>
    simp only[cond_false,v2_]
    by_cases hr:st.next≤x∧x<st'.next
    ·rw[if_pos (by omega)]
    ·rw[if_neg (by omega)]
     rcases hd with⟨o,hg⟩|hd
     ·have h1:=(f0_ hg).1
      have hx:=hwf x o h1
      rw[l3 x hx (by omega),h1]
      exact hg.symm
     ·exact absurd hd hr
 ·have hr: ¬(st.next≤x∧x<st'.next):=fun h=>hd (.inr h)
  have hg: ∀o,(d1_ m recs st.h fp).get x≠some o:=fun o h=>hd (.inl ⟨o,h⟩)
  cases fp with
  |some l=>
   simp only[j1_,v2_,Y0_]
   rw[if_neg (by omega),if_neg]
   rintro⟨_,h2⟩
   cases h3:(d1_ m recs st.h (some l)).get x with
   |none=>rw[h3]at h2;cases h2
   |some o=>exact hg o h3
  |none=>
   simp only[j1_]
   cases ha:recs.all fun r=>f4_ m r.j with
   |true=>
    simp only[cond_true]
    have hf:d1_ m recs st.h none=st.h:=ahV_ ha
    rw[hf]at l4 hg
    cases h1:st'.h.get x with
    |none=>
     cases h2:st.h.get x with
     |none=>rfl
     |some o=>exact absurd h2 (hg o)
    |some o=>
     rcases l4 x o h1 with⟨o',h2⟩|h2
     ·exact absurd h2 (hg o')
     ·exact absurd h2 hr
   |false=>
    simp only[cond_false,v2_]
    rw[if_neg (by omega)]
def effD(n:Nat)(d:Option Nat):Option Nat:=match d with
 |some d=>cond (Nat.blt d n) (some d) none
 |none=>none
theorem v1_{n t:Nat}{d:Option Nat}(h:effD n d=some t):d=some t∧t<n:=by
 unfold effD at h
 cases d with
 |none=>cases h
 |some d=>
  simp only at h
  cases hb:Nat.blt d n with
  |true=>rw[hb]at h;cases h;exact⟨rfl,v5_ hb⟩
  |false=>rw[hb]at h;cases h
theorem aih_(f:AFr)(d:Option Nat)(v:Value):(f.put d v).n=f.n∧(f.put d v).defers=f.defers∧ ∀t,(f.put d v).tmps.get t=if effD f.n d=some t then some v else f.tmps.get t:=by
 cases d with
 |none=>exact⟨rfl,rfl,fun t=>by simp[AFr.put,effD]⟩
 |some d=>
  simp only[AFr.put,effD]
  rcases Bool.eq_false_or_eq_true (Nat.blt d f.n)with hb|hb
  ·simp only[hb,cond_true]
   refine⟨trivial,trivial,fun t=> ?_⟩
   simp only[b0_,Option.some.injEq]
   by_cases ht:d=t
   ·subst ht;rw[a1_,if_pos rfl]
   ·rw[a2_ _ _ (Ne.symm ht),if_neg ht]
  ·simp only[hb,cond_false]
   exact⟨trivial,trivial,fun t=>by simp⟩
def Wp(P:Program)(all:List Oper)(Q:Exit→Act→World→Prop)(o:Oper)(K:Act→World→Prop)(a:Act)(w:World):Prop:=
 if Region.wanted o (yielded all.toArray a.tmps)then o.wp P a w K Q else K (a.put o.dst undef) w
def aoV_(P:Program)(all:List Oper)(i:It)(o:Oper)(sl:Nat→Option Value)(n:Nat)(ds:List ADef):Prop:=
 ∀(Q:Exit→Act→World→Prop) (ρ:Rho) (w:World) (a:Act) (K:Act→World→Prop),(∀t∈i.looks,∀v,sl t=some v→ ∃v',a.tmps[t]? =some v'∧VR ρ v v')→a.tmps.size=n→y3_ ρ ds a.defers→WR ρ i.hb w→b6_ ρ i.s i.e→
  (∀ρ' v' w',VR ρ' i.v v'→Mv ρ ρ' i.hb i.ha i.s i.e w w'→K (a.put o.dst v') w')→Wp P all Q o K a w
theorem aiN_{it it':Nat→It}{g0:Mem}{L:Nat→Bool}: ∀{n:Nat},(∀k,k<n→it k=it' k)→gK it g0 L n=gK it' g0 L n:=by
 intro n
 induction n with
 |zero=>intro _;rfl
 |succ n ih=>
  intro h
  simp only[gK]
  rw[ih (fun k hk=>h k (by omega)),h n (by omega)]
theorem aex_{it it':Nat→It}{s0:Nat→Option Value}{L:Nat→Bool}: ∀{n:Nat},(∀k,k<n→it k=it' k)→slK it s0 L n=slK it' s0 L n:=by
 intro n
 induction n with
 |zero=>intro _;rfl
 |succ n ih=>
  intro h
  funext t
  simp only[slK]
  rw[ih (fun k hk=>h k (by omega)),h n (by omega)]
structure Tra (P:Program) (all:List Oper) (f0:AFr) (st0:ASt) (its:Nat→It) (j:Nat) (f:AFr) (st:ASt) (recs:List Rec):Prop where
 heap:st.h.get=gK its st0.h.get allL j
 slot:f.tmps.get=slK its f0.tmps.get allL j
 fn:f.n=f0.n
 defs:f.defers=f0.defers
 eN: ∀i,i<j→st0.next≤(its i).s∧(its i).e≤st.next
 run:Run its j st0.h.get (Anc all)
 sem: ∀i o,i<j→all[i]? =some o→(its i).dst=effD f0.n o.dst∧(its i).looks=e0_ all o∧aoV_ P all (its i) o (slK its f0.tmps.get allL i) f0.n f0.defers
 recs: ∀i,i<j→((∀x,(its i).hb x=none)∧(its i).s=(its i).e)∨ ∃r∈recs,r.j=i∧r.s=(its i).s∧r.e=(its i).e∧(r.wr=false→ ∀x o,(its i).hb x=some o→(its i).ha x=some o)∧(∀x o,x<r.lo→(its i).hb x=some o→(its i).ha x=some o)∧ ∀l,r.fp=some l→ ∀x o,(its i).hb x=some o→x∈l
 wf: ∀x o,st.h.get x=some o→x<st.next
 los:LoS st0 st
theorem Tra.step{P:Program}{all:List Oper}{f0 f:AFr}{st0 st st':ASt}{its:Nat→It}{j:Nat}{recs recs':List Rec}{o:Oper}{i:It}(T:Tra P all f0 st0 its j f st recs)(hsl:g3_ all=true)(ho:all[j]? =some o)
  (hs:i.s=st.next) (he:i.s≤i.e) (hsub: ∀x o,i.hb x=some o→st.h.get x=some o)
  (hind: ∀k,k<j→ ¬Anc all j k→ ∀x o,i.hb x=some o→ ¬((its k).s≤x∧x<(its k).e)∧ ∀o',(its k).hb x=some o'→(its k).ha x=(its k).hb x∧i.ha x=i.hb x)
  (hdst:i.dst=effD f0.n o.dst) (hlk:i.looks=e0_ all o) (hsem:aoV_ P all i o (slK its f0.tmps.get allL j) f0.n f0.defers)
  (hheap:st'.h.get=i.upd st.h.get) (hnx:st'.next=i.e) (hwf: ∀x o,st'.h.get x=some o→x<st'.next) (hlos:LoS st st')
  (hr1: ∀r∈recs,r∈recs') (hr2:((∀x,i.hb x=none)∧i.s=i.e)∨ ∃r∈recs',r.j=j∧r.s=i.s∧r.e=i.e∧(r.wr=false→ ∀x o,i.hb x=some o→i.ha x=some o)∧(∀x o,x<r.lo→i.hb x=some o→i.ha x=some o)∧ ∀l,r.fp=some l→ ∀x o,i.hb x=some o→x∈l):
  Tra P all f0 st0 (upd its j i) (j+1) (f.put o.dst i.v) st' recs':=by
 have hlt: ∀k,k<j→upd its j i k=its k:=fun k hk=>a2_ _ _ (by omega)
 have hj:upd its j i j=i:=a1_ _ _ _
 have hg: ∀k,k≤j→gK (upd its j i) st0.h.get allL k=gK its st0.h.get allL k:=fun k hk=>aiN_ fun q hq=>hlt q (by omega)
 have hsk: ∀k,k≤j→slK (upd its j i) f0.tmps.get allL k=slK its f0.tmps.get allL k:=fun k hk=>aex_ fun q hq=>hlt q (by omega)
 obtain⟨p1,p2,p3⟩:=aih_ f o.dst i.v
 have hsp:=y7_ hsl
 refine⟨?_,?_,p1.trans T.fn,p2.trans T.defs,fun k hk=> ?_,⟨fun k hk=> ?_,fun a b hab hb=> ?_,fun k hk x o' hx=> ?_,fun k hk x o' hx=> ?_,fun a b hab hb hna x o' hx=> ?_,fun a b hab hb hna=> ?_⟩,fun k o' hk hok=> ?_,fun k hk=> ?_,hwf,T.los.trans hlos⟩
 ·rw[hheap,akd_,hj,hg j (Nat.le_refl _),T.heap]
 ·funext t
  rw[p3]
  simp only[slK,allL,true_and,hj,hdst,T.fn]
  rw[T.slot,hsk j (Nat.le_refl _)]
 ·rcases Nat.lt_or_ge k j with h|h
  ·rw[hlt k h]
   obtain⟨e1,e2⟩:=T.eN k h
   have:=hlos.1
   exact⟨e1,by omega⟩
  ·have:k=j:=by omega
   subst this
   rw[hj]
   have:=T.los.1
   exact⟨by omega,by omega⟩
 ·rcases Nat.lt_or_ge k j with h|h
  ·rw[hlt k h];exact T.run.le k h
  ·have:k=j:=by omega
   subst this;rw[hj];exact he
 ·rcases Nat.lt_or_ge b j with h|h
  ·rw[hlt a (by omega),hlt b h];exact T.run.mono a b hab h
  ·have:b=j:=by omega
   subst this
   rw[hlt a hab,hj,hs]
   exact(T.eN a hab).2
 ·rcases Nat.lt_or_ge k j with h|h
  ·rw[hlt k h]at hx;rw[hg k (by omega)];exact T.run.sub k h x o' hx
  ·have:k=j:=by omega
   subst this
   rw[hj]at hx;rw[hg k (Nat.le_refl _),←T.heap]
   exact hsub x o' hx
 ·rcases Nat.lt_or_ge k j with h|h
  ·rw[hlt k h]at hx ⊢;exact T.run.low k h x o' hx
  ·have:k=j:=by omega
   subst this
   rw[hj]at hx ⊢
   rw[hs];exact T.wf x o' (hsub x o' hx)
 ·rcases Nat.lt_or_ge b j with h|h
  ·rw[hlt a (by omega)];rw[hlt b h]at hx ⊢;exact T.run.ind a b hab h hna x o' hx
  ·have:b=j:=by omega
   subst this
   rw[hlt a hab];rw[hj]at hx ⊢
   exact hind a hab hna x o' hx
 ·have hbl:b<all.length∧a<all.length:=by
   have:=(List.getElem?_eq_some_iff.1 ho).1
   omega
  have hoa:all[a]? =some all[a]:=by simp[hbl.2]
  have hob:all[b]? =some all[b]:=by simp[hbl.1]
  obtain⟨q1,q2⟩:=hsp.2 a b _ _ hab hoa hob hna
  have key: ∀k,k<j+1→ ∀ok,all[k]? =some ok→(upd its j i k).dst=effD f0.n ok.dst∧(upd its j i k).looks=e0_ all ok:=by
   intro k hk ok hok
   rcases Nat.lt_or_ge k j with h|h
   ·rw[hlt k h];obtain⟨s1,s2,_⟩:=T.sem k ok h hok;exact⟨s1,s2⟩
   ·have:k=j:=by omega
    subst this
    rw[hj]
    rw[ho]at hok;cases hok
    exact⟨hdst,hlk⟩
  obtain⟨ka1,ka2⟩:=key a (by omega) _ hoa
  obtain⟨kb1,kb2⟩:=key b hb _ hob
  refine⟨fun t ht=> ?_,fun t ht=> ?_⟩
  ·rw[ka1]at ht
   obtain⟨e1,e2⟩:=q1 t (v1_ ht).1
   rw[kb2,kb1]
   exact⟨e1,fun h=>e2 (v1_ h).1⟩
  ·rw[kb1]at ht
   rw[ka2]
   exact q2 t (v1_ ht).1
 ·rcases Nat.lt_or_ge k j with h|h
  ·rw[hlt k h,hsk k (by omega)];exact T.sem k o' h hok
  ·have:k=j:=by omega
   subst this
   rw[ho]at hok;cases hok
   rw[hj,hsk k (Nat.le_refl _)]
   exact⟨hdst,hlk,hsem⟩
 ·rcases Nat.lt_or_ge k j with h|h
  ·rw[hlt k h]
   rcases T.recs k h with h1|⟨r,h1,h2⟩
   ·exact .inl h1
   ·exact .inr ⟨r,hr1 r h1,h2⟩
  ·have:k=j:=by omega
   subst this
   rw[hj];exact hr2
theorem g1_{all:List Oper}{f:AFr}{o:Oper}{b:Bool}{ρ:Rho}{a:Act}(h:g2_ all f o=some b)(hr: ∀t∈e0_ all o,∀v,f.tmps.get t=some v→ ∃v',a.tmps[t]? =some v'∧VR ρ v v'):Region.wanted o (yielded all.toArray a.tmps)=b:=by
 unfold g2_ at h
 unfold Region.wanted
 cases hg:o.guard with
 |none=>rw[hg]at h;cases h;rfl
 |some p=>
  obtain⟨j,want⟩:=p
  rw[hg]at h
  simp only at h ⊢
  cases ho:all[j]? with
  |none=>rw[ho]at h;cases h;simp[yielded,ho]
  |some oj=>
   rw[ho]at h
   simp only at h
   cases hd:oj.dst with
   |none=>rw[hd]at h;cases h;simp[yielded,ho,hd]
   |some d=>
    rw[hd]at h
    simp only at h
    have hmem:d∈e0_ all o:=by
     unfold e0_
     rw[hg]
     simp[ho,hd]
    split at h
    ·rename_i b' hb
     cases h
     obtain⟨v',e1,e2⟩:=hr d hmem _ hb
     cases e2
     simp[yielded,ho,hd,e1]
    ·rename_i vs hb
     cases h
     obtain⟨v',e1,e2⟩:=hr d hmem _ hb
     cases e2
     simp[yielded,ho,hd,e1]
    ·cases h
theorem agr_{P:Program}{self:Self}(hself:w0_ P self){all:List Oper}{f0 f:AFr}{st0 st st':ASt}{its:Nat→It}{j:Nat}{recs:List Rec}{o:Oper}{v:Value}{fp:Option (List Nat)}(T:Tra P all f0 st0 its j f st recs)(hsl:g3_ all=true)(ho:all[j]? =some o)
  (hw:g2_ all f o=some true) (he:P9_ P self ⟨f.n,N5_ f (e0_ all o),f.defers⟩ ⟨st.next,d1_ (d9_ all j) recs st.h fp,big⟩ o= .ok (v,st')) (hfp:fp=none→st.next≤st'.lo) (hfree:z5_ (d9_ all j) recs (!(Nat.ble st.next st'.lo)) st'.lo fp=true):
  ∃its',Tra P all f0 st0 its' (j+1) (f.put o.dst v) ⟨st'.next,j1_ (d9_ all j) recs st.h (d1_ (d9_ all j) recs st.h fp) st'.h st.next st'.next fp,minN st.lo st'.lo⟩
   (cond (noRec fp st.next st'.next) recs (⟨j,st.next,st'.next,!(Nat.ble st.next st'.lo),st'.lo,fp⟩::recs)):=by
 have hwf0:Wf ⟨st.next,d1_ (d9_ all j) recs st.h fp,big⟩:=fun x o' hx=>T.wf x o' (f0_ hx).1
 obtain⟨hlo,hsem⟩:=aaG_ hself hwf0 he
 have hlo0:=hlo
 obtain⟨l1,l2,l3,l4⟩:=hlo
 simp only at l1 l2 l3 l4
 have hm:=aaA_ st.lo st'.lo
 have hmerge:=afI_ hlo0 T.wf hfp (effD f0.n o.dst) v (e0_ all o)
 have hreader:(!(Nat.ble st.next st'.lo))=false→ ∀x o,(d1_ (d9_ all j) recs st.h fp).get x=some o→st'.h.get x=some o:=by
  intro h x o' hx
  have h1:st.next≤st'.lo:=r9_ (by simpa using h)
  have h2:=T.wf x o' (f0_ hx).1
  rw[l3 x h2 (by omega)];exact hx
 have hbelow: ∀x o,x<st'.lo→(d1_ (d9_ all j) recs st.h fp).get x=some o→st'.h.get x=some o:=by
  intro x o' hb hx
  have h2:=T.wf x o' (f0_ hx).1
  rw[l3 x h2 hb];exact hx
 refine⟨_,Tra.step (i:=⟨st.next,st'.next,(d1_ (d9_ all j) recs st.h fp).get,st'.h.get,effD f0.n o.dst,v,e0_ all o⟩) T hsl ho rfl l1 (fun x o' hx=>(f0_ hx).1) ?_ rfl rfl ?_ hmerge rfl ?_ ?_ ?_ ?_⟩
 ·intro k hk hna x o' hx
  have hbit:f4_ (d9_ all j) k=false:=by
   cases h:f4_ (d9_ all j) k with
   |true=>exact absurd h hna
   |false=>rfl
  rcases T.recs k hk with⟨r1,r2⟩|⟨r,r1,r2,r3,r4,r5,r7,r6⟩
  ·exact⟨by rw[r2];omega,fun o2 h2=>by rw[r1 x]at h2;cases h2⟩
  ·refine⟨?_,fun o2 h2=> ?_⟩
   ·have:=(f0_ hx).2.1 r r1 (by rw[r2];exact hbit)
    rw[←r3,←r4];exact this
   ·unfold z5_ at hfree
    rw[List.all_eq_true]at hfree
    have:=hfree r r1
    rw[r2,hbit]at this
    simp only[Bool.false_or,Bool.or_eq_true,Bool.not_eq_true',Bool.or_eq_false_iff]at this
    rcases this with⟨w1,w2⟩|ha
    ·exact⟨by rw[h2];exact r5 w1 x o2 h2,(hreader w2 x o' hx).trans hx.symm⟩
    ·unfold akk_ at ha
     split at ha
     ·rename_i la lb e1
      have m1:=r6 la e1 x o2 h2
      have m2:=(f0_ hx).2.2 lb rfl
      rw[List.all_eq_true]at ha
      have:=ha x m1
      rw[List.all_eq_true]at this
      have:=this x m2
      rw[Nat.beq_refl,Bool.not_true,Bool.false_or,Bool.and_eq_true]at this
      exact⟨by rw[h2];exact r7 x o2 (v5_ this.1) h2,(hbelow x o' (v5_ this.2) hx).trans hx.symm⟩
     ·cases ha
 ·intro Q ρ w a K hs hsz hdf hwr hfr hK
  have hs': ∀t∈e0_ all o,∀v,f.tmps.get t=some v→ ∃v',a.tmps[t]? =some v'∧VR ρ v v':=by
   intro t ht v hv
   rw[T.slot]at hv
   exact hs t ht v hv
  have hwant:=g1_ hw hs'
  unfold Wp
  rw[hwant,if_pos rfl]
  exact hsem ρ w a (aeQ_ (by rw[hsz,T.fn]) (by rw[T.defs];exact hdf) hs') hwr hfr K Q hK
 ·intro x o' hx
  simp only at hx ⊢
  rw[hmerge]at hx
  unfold It.upd at hx
  split at hx
  ·rcases l4 x o' hx with⟨o2,h2⟩|h2
   ·have:=T.wf x o2 (f0_ h2).1;omega
   ·omega
  ·have:=T.wf x o' hx;omega
 ·refine⟨l1,hm.1,fun x h1 h2=> ?_,fun x o' hx=> ?_⟩
  ·simp only at h2 ⊢
   rw[hmerge]
   unfold It.upd
   split
   ·rename_i hd
    rcases hd with⟨o2,hd⟩|hd
    ·simp only at hd ⊢
     rw[l3 x h1 (by omega),hd]
     exact((f0_ hd).1).symm
    ·simp only at hd;omega
   ·rfl
  ·simp only at hx ⊢
   rw[hmerge]at hx
   unfold It.upd at hx
   split at hx
   ·rcases l4 x o' hx with⟨o2,h2⟩|h2
    ·exact .inl ⟨o2,(f0_ h2).1⟩
    ·exact .inr h2
   ·exact .inl ⟨o',hx⟩
 ·intro r hr
  cases noRec fp st.next st'.next with
  |true=>exact hr
  |false=>exact List.mem_cons_of_mem _ hr
 ·cases hn:noRec fp st.next st'.next with
  |true=>
   left
   unfold noRec at hn
   split at hn
   ·exact⟨fun x=>rfl,Nat.eq_of_beq_eq_true hn⟩
   ·cases hn
  |false=>
   right
   exact⟨_,List.mem_cons_self ..,rfl,rfl,rfl,hreader,hbelow,fun l hl x o' hx=>(f0_ hx).2.2 l hl⟩
theorem ags_{P:Program}{all:List Oper}{f0 f:AFr}{st0 st:ASt}{its:Nat→It}{j:Nat}{recs:List Rec}{o:Oper}(T:Tra P all f0 st0 its j f st recs)(hsl:g3_ all=true)(ho:all[j]? =some o)
  (hw:g2_ all f o=some false): ∃its',Tra P all f0 st0 its' (j+1) (f.put o.dst undef) st recs:=by
 refine⟨_,Tra.step (i:=⟨st.next,st.next,fun _=>none,fun _=>none,effD f0.n o.dst,undef,e0_ all o⟩) T hsl ho rfl (Nat.le_refl _) (fun x o' hx=>by cases hx) (fun k hk hna x o' hx=>by cases hx) rfl rfl ?_ ?_ rfl T.wf (LoS.refl _) (fun r hr=>hr) (.inl ⟨fun _=>rfl,rfl⟩)⟩
 ·intro Q ρ w a K hs hsz hdf hwr hfr hK
  have hs': ∀t∈e0_ all o,∀v,f.tmps.get t=some v→ ∃v',a.tmps[t]? =some v'∧VR ρ v v':=by
   intro t ht v hv
   rw[T.slot]at hv
   exact hs t ht v hv
  unfold Wp
  rw[g1_ hw hs',if_neg (by simp)]
  exact hK ρ undef w (.tuple _ _ rfl (fun i x y hx=>by simp at hx)) (Mv.refl hwr _)
 ·refine ajv_ _ _ _ (fun x hd=> ?_) (fun x hd=>rfl)
  rcases hd with⟨o',hd⟩|hd
  ·cases hd
  ·simp only at hd;omega
theorem agq_{P:Program}{self:Self}(hself:w0_ P self){all:List Oper}{f0:AFr}{st0:ASt}(hsl:g3_ all=true): ∀(l:List (Oper×Nat)) (j:Nat) (recs:List Rec) (f:AFr) (st:ASt) (its:Nat→It) (x:AX) (f':AFr) (st':ASt),
  (∀(k:Nat) (o:Oper) (m:Nat),l[k]? =some (o,m)→all[j+k]? =some o∧m=d9_ all (j+k))→Tra P all f0 st0 its j f st recs→r8_ P self all l j recs f st= .ok (x,f',st')→
  x= .normal∧ ∃its' recs',Tra P all f0 st0 its' (j+l.length) f' st' recs':=by
 intro l
 induction l with
 |nil=>
  intro j recs f st its x f' st' _ T h
  cases h
  exact⟨rfl,its,recs,T⟩
 |cons p l ih=>
  intro j recs f st its x f' st' hl T h
  obtain⟨o,m⟩:=p
  obtain⟨ho,hm⟩:=hl 0 o m rfl
  simp only[Nat.add_zero]at ho hm
  subst hm
  have hl': ∀(k:Nat) (o:Oper) (m:Nat),l[k]? =some (o,m)→all[j+1+k]? =some o∧m=d9_ all (j+1+k):=by
   intro k o' m' hk
   have:=hl (k+1) o' m' (by simpa using hk)
   rw[show j+1+k=j+(k+1)by omega];exact this
  have hlen:j+(((o,d9_ all j):Oper×Nat)::l).length=j+1+l.length:=by simp;omega
  rw[hlen]
  have step: ∀(fp:Option (List Nat)) (v:Value) (st1:ASt),g2_ all f o=some true→P9_ P self ⟨f.n,N5_ f (e0_ all o),f.defers⟩ ⟨st.next,d1_ (d9_ all j) recs st.h fp,big⟩ o= .ok (v,st1)→(fp=none→st.next≤st1.lo)→
    (cond (z5_ (d9_ all j) recs (!(Nat.ble st.next st1.lo)) st1.lo fp)
     (r8_ P self all l (j+1) (cond (noRec fp st.next st1.next) recs (⟨j,st.next,st1.next,!(Nat.ble st.next st1.lo),st1.lo,fp⟩::recs)) (f.put o.dst v)
      ⟨st1.next,j1_ (d9_ all j) recs st.h (d1_ (d9_ all j) recs st.h fp) st1.h st.next st1.next fp,minN st.lo st1.lo⟩)
     (.er "draw: not apart" o.pos))= .ok (x,f',st')→x= .normal∧ ∃its' recs',Tra P all f0 st0 its' (j+1+l.length) f' st' recs':=by
   intro fp v st1 hw he hfp hc
   obtain⟨hfree,h1⟩:=ck_ hc
   obtain⟨its1,T1⟩:=agr_ hself T hsl ho hw he hfp hfree
   exact ih (j+1) _ _ _ its1 x f' st' hl' T1 h1
  unfold r8_ at h
  simp only at h
  split at h
  ·rename_i hw
   split at h
   ·rename_i lst hfp
    split at h
    ·rename_i v st1 he
     exact step (some lst) v st1 hw he (fun e=>by cases e) h
    ·cases h
   ·split at h
    ·rename_i v st1 he
     cases hb:Nat.ble st.next st1.lo with
     |true=>
      rw[hb]at h
      simp only[cond_true]at h
      exact step none v st1 hw he (fun _=>r9_ hb) (by rw[hb];exact h)
     |false=>
      rw[hb]at h
      simp only[cond_false]at h
      split at h
      ·rename_i v2 st2 he2
       exact step _ v2 st2 hw he2 (fun e=>by cases e) h
      ·cases h
    ·cases h
  ·rename_i hw
   obtain⟨its1,T1⟩:=ags_ T hsl ho hw
   exact ih (j+1) _ _ _ its1 x f' st' hl' T1 h
  ·cases h
theorem Tra.start(P:Program)(all:List Oper)(f:AFr)(st:ASt)(hwf: ∀x o,st.h.get x=some o→x<st.next)(its:Nat→It):Tra P all f st its 0 f st []:=
 ⟨rfl,rfl,rfl,rfl,fun i h=>by omega,⟨fun k h=>by omega,fun i j _ h=>by omega,fun k h=>by omega,fun k h=>by omega,fun i j _ h=>by omega,fun i j _ h=>by omega⟩,fun i o h=>by omega,fun i h=>by omega,hwf,LoS.refl _⟩
end Go.Proofs.YtachglcffimmeaaGreat.Ev
