/-
  What the evaluator says of single operations holds of their runs: memory.
-/
import Derived.Test.YtachglcffimmeaaGreatR2
set_option linter.unusedVariables false
set_option linter.unusedSimpArgs false
namespace Go.Proofs.YtachglcffimmeaaGreat.Ev
open Go
theorem d4_{w:World}{b:Nat}{C:Array Value}{t:TypeId}{fr:Nat×Nat}(h:w.heap[b]? =some (.cells C t fr))(o:Nat):w.cell? ⟨b,o,none⟩=C[o]? :=by simp[World.cell?,h]
theorem adb_{w:World}{b:Nat}{C:Array Value}{t:TypeId}{fr:Nat×Nat}(h:w.heap[b]? =some (.cells C t fr))(o:Nat):w.frozen? ⟨b,o,none⟩=(decide (fr.1≤o)&&decide (o<fr.2)):=by
 obtain⟨lo,hi⟩:=fr
 simp[World.frozen?,h]
theorem d8_(P:Program)(b o:Nat)(t:TypeId)(fr:Nat×Nat): ∀(vs:List Value) (i:Nat) (C:Array Value) (w:World),w.heap[b]? =some (.cells C t fr)→(∀k,k<C.size→ ¬(fr.1≤k∧k<fr.2))→o+i+vs.length≤C.size→
  (∀v∈vs,v.oneCell'=true)→ ∃C' w',(storeCells ⟨b,o,none⟩ vs i).run P w= .ok () w'∧w'.heap[b]? =some (.cells C' t fr)∧C'.size=C.size∧
   (∀k,C'[k]? =if o+i≤k∧k<o+i+vs.length then vs[k-(o+i)]? else C[k]?)∧w'.heap.size=w.heap.size∧(∀b',b'≠b→w'.heap[b']? =w.heap[b']?)∧w'.os=w.os∧w'.tape=w.tape∧w'.output=w.output:=by
 intro vs
 induction vs with
 |nil=>
  intro i C w hb hfr hl h1
  exact⟨C,w,rfl,hb,rfl,fun k=>by rw[if_neg (by simp)],rfl,fun _ _=>rfl,rfl,rfl,rfl⟩
 |cons v vs ih=>
  intro i C w hb hfr hl h1
  simp only[List.length_cons]at hl
  have hv:=h1 v (by simp)
  have hlt:o+i<C.size:=by omega
  have hc:w.cell? ⟨b,o+i,none⟩=some C[o+i]:=by rw[d4_ hb];simp[hlt]
  have hz:w.frozen? ⟨b,o+i,none⟩=false:=by
   rw[adb_ hb]
   have:=hfr (o+i) hlt
   cases h2:decide (fr.1≤o+i)<;>simp
   simp at h2;omega
  have hs:(store ((⟨b,o,none⟩:Addr).add i) v).run P w= .ok () (w.setCell ⟨b,o+i,none⟩ v):=by
   rw[e5_,run_store P w _ v _ hv,hc]
   simp[hz]
  have hb':(w.setCell ⟨b,o+i,none⟩ v).heap[b]? =some (.cells (C.setIfInBounds (o+i) v) t fr):=by
   simp[World.setCell,Array.getElem?_modify,hb]
  obtain⟨C',w',e1,e2,e3,e4,e5,e6,e7,e8,e9⟩:=ih (i+1) (C.setIfInBounds (o+i) v) (w.setCell ⟨b,o+i,none⟩ v) hb' (by intro k hk;exact hfr k (by simpa using hk)) (by simp;omega) (fun u hu=>h1 u (by simp[hu]))
  refine⟨C',w',?_,e2,by simpa using e3,fun k=> ?_,by rw[e5];simp[World.setCell],fun b' hne=> ?_,e7,e8,e9⟩
  ·simp only[storeCells,Sem.run_bind,hs,Result.andThen_ok];exact e1
  ·rw[e4]
   by_cases hk:k=o+i
   ·subst hk
    rw[if_neg (by omega),if_pos (by simp)]
    simp[hlt]
   ·by_cases hk2:o+(i+1)≤k∧k<o+(i+1)+vs.length
    ·rw[if_pos hk2,if_pos (by simp;omega)]
     rw[show k-(o+i)=(k-(o+(i+1)))+1 by omega]
     simp
    ·rw[if_neg hk2,if_neg (by simp;omega),Array.getElem?_setIfInBounds_ne (by omega)]
  ·rw[e6 b' hne]
   simp only[World.setCell,Array.getElem?_modify]
   rw[if_neg (by omega)]
def TRL(w:World)(F:Nat→Prop)(ts:List Td)(l:List Value):Prop:=ts.length=l.length∧ ∀(i:Nat) t y,ts[i]? =some t→l[i]? =some y→TR w F t y
theorem TRL.kept{w w':World}{F F':Nat→Prop}(hF: ∀b,F b→F' b)(hw: ∀b,F b→w'.heap[b]? =w.heap[b]?){ts:List Td}{l:List Value}(h:TRL w F ts l):TRL w' F' ts l:=⟨h.1,fun i t y a b=>(h.2 i t y a b).kept hF hw⟩
theorem TRL.nil(w:World)(F:Nat→Prop):TRL w F [] []:=⟨rfl,fun i t y h=>by simp at h⟩
theorem TRL.cons{w:World}{F:Nat→Prop}{t:Td}{y:Value}{ts:List Td}{l:List Value}(h:TR w F t y)(hl:TRL w F ts l):TRL w F (t::ts) (y::l):=by
 refine⟨by simp[hl.1],fun i a b ha hb=> ?_⟩
 cases i with
 |zero=>simp at ha hb;subst ha hb;exact h
 |succ i=>exact hl.2 i a b (by simpa using ha) (by simpa using hb)
theorem TRL.uncons{w:World}{F:Nat→Prop}{t:Td}{ts:List Td}{l:List Value}(h:TRL w F (t::ts) l): ∃y m,l=y::m∧TR w F t y∧TRL w F ts m:=by
 cases l with
 |nil=>have:=h.1;simp at this
 |cons y m=>exact⟨y,m,rfl,h.2 0 t y (by simp) (by simp),⟨by have:=h.1;simpa using this,fun i a b ha hb=>h.2 (i+1) a b (by simpa using ha) (by simpa using hb)⟩⟩
theorem TRL.get{w:World}{F:Nat→Prop}{ts:List Td}{l:List Value}(h:TRL w F ts l){i:Nat}{t:Td}(hx:ts[i]? =some t): ∃y,l[i]? =some y∧TR w F t y:=by
 have hi:i<l.length:=by rw[←h.1];exact(List.getElem?_eq_some_iff.1 hx).1
 exact⟨l[i],by simp[hi],h.2 i t _ hx (by simp[hi])⟩
theorem L5_(e:Nat→Td): ∀(n off:Nat),(z9_ e off n).length=n∧ ∀j,j<n→(z9_ e off n)[j]? =some (e (off+j)):=by
 intro n
 induction n with
 |zero=>intro off;exact⟨rfl,fun j hj=>by omega⟩
 |succ n ih=>
  intro off
  obtain⟨h1,h2⟩:=ih (off+1)
  refine⟨by simp[z9_,h1],fun j hj=> ?_⟩
  cases j with
  |zero=>rfl
  |succ j=>simp only[z9_,List.getElem?_cons_succ];rw[h2 j (by omega)];congr 2;omega
theorem E2_(es:Nat)(elem:Nat→Nat→Td): ∀(c i:Nat),(E3_ es elem i c).length=c*es∧ ∀j k,j<c→k<es→(E3_ es elem i c)[j*es+k]? =some (elem (i+j) k):=by
 intro c
 induction c with
 |zero=>intro i;exact⟨by simp[E3_],fun j k hj=>by omega⟩
 |succ c ih=>
  intro i
  obtain⟨h1,h2⟩:=ih (i+1)
  obtain⟨g1,g2⟩:=L5_ (elem i) es 0
  refine⟨by simp[E3_,h1,g1,Nat.succ_mul];omega,fun j k hj hk=> ?_⟩
  cases j with
  |zero=>simp only[E3_];rw[List.getElem?_append_left (by omega)];simpa using g2 k hk
  |succ j=>
   simp only[E3_]
   rw[List.getElem?_append_right (by rw[g1,Nat.succ_mul];omega),g1,show(j+1)*es+k-es=j*es+k by rw[Nat.succ_mul];omega,h2 j k (by omega) hk]
   congr 2;omega
theorem m9_: ∀(l:List Td) (j:Nat) (t:Td),l[j]? =some t→nthT l j=t:=by
 intro l
 induction l with
 |nil=>intro j t h;simp at h
 |cons a l ih=>
  intro j t h
  cases j with
  |zero=>simp at h;exact h
  |succ j=>exact ih j t (by simpa using h)
theorem aiQ_: ∀(n:Nat) (l:List Td),I8_ n l=l.drop n:=by
 intro n
 induction n with
 |zero=>intro l;rfl
 |succ n ih=>intro l;cases l with
  |nil=>simp[I8_]
  |cons a l=>simp only[I8_,List.drop_succ_cons];exact ih l
theorem acb_{w:World}{F:Nat→Prop}{b o:Nat}{ts:List Td}(h: ∀j t,ts[j]? =some t→ ∃y,w.cell? ⟨b,o+j,none⟩=some y∧y.oneCell'=true∧TR w F t y):
  ∃l',TRL w F ts l'∧(∀v∈l',v.oneCell'=true)∧ ∀j v,l'[j]? =some v→w.cell? ⟨b,o+j,none⟩=some v:=by
 induction ts generalizing o with
 |nil=>exact⟨[],TRL.nil _ _,fun v hv=>by simp at hv,fun j v hv=>by simp at hv⟩
 |cons t ts ih=>
  obtain⟨y,y1,y2,y3⟩:=h 0 t (by simp)
  obtain⟨l',h1,h2,h3⟩:=ih (o:=o+1) (fun j u hu=>by
   have:=h (j+1) u (by simpa using hu)
   rw[show o+(j+1)=o+1+j by omega]at this
   exact this)
  refine⟨y::l',TRL.cons y3 h1,fun v hv=> ?_,fun j v hv=> ?_⟩
  ·rcases List.mem_cons.1 hv with rfl|hv
   ·exact y2
   ·exact h2 v hv
  ·cases j with
   |zero=>simp at hv;subst hv;exact y1
   |succ j=>rw[show o+(j+1)=o+1+j by omega];exact h3 j v (by simpa using hv)
theorem o2_{st:ASt}{a:Addr}{n:Nat}{l:List Value}{ρ:Rho}{w:World}{s:Spot}(h:st.readC a n= .ok l)(hw:WR ρ st.h.get w)(hs:ρ a.block=some s):
  ∃l',VRL ρ l l'∧l'.length=n∧ ∀j v,l'[j]? =some v→w.cell? ((⟨s.blk,j8_ s a,none⟩:Addr).add j)=some v:=by
 have key: ∀(cs:List Value) (C:Array Value) (t:TypeId) (fr:Nat×Nat),a.spot=none→Rs.of "read" (s0_ n (H3_ a.off cs))= .ok l→w.heap[s.blk]? =some (.cells C t fr)→s.base+cs.length≤C.size→(∀(i:Nat) (x:Value),cs[i]? =some x→ ∃y,C[s.base+i]? =some y∧VR ρ x y)→
   ∃l',VRL ρ l l'∧l'.length=n∧ ∀j v,l'[j]? =some v→w.cell? ((⟨s.blk,j8_ s a,none⟩:Addr).add j)=some v:=by
  intro cs C t fr hsp h e3 e6 e7
  have hloc:j8_ s a=s.base+a.off:=by unfold j8_;rw[hsp]
  rw[hloc]
  have h1:=O9_ h
  obtain⟨h2,h3⟩:=q5_ h1
  rw[B9_]at h2 h3
  simp only[List.length_drop]at h2
  have hlen:((C.toList.drop (s.base+a.off)).take n).length=n:=by simp;omega
  refine⟨(C.toList.drop (s.base+a.off)).take n,⟨by rw[hlen,h3];simp;omega,fun i x y hx hy=> ?_⟩,hlen,fun j v hv=> ?_⟩
  ·rw[h3]at hx
   rw[List.getElem?_take]at hx hy
   split at hx
   ·rename_i hi
    rw[if_pos hi]at hy
    simp only[List.getElem?_drop]at hx hy
    obtain⟨y',e8,e9⟩:=e7 _ x hx
    have:y=y':=by
     rw[Array.getElem?_toList,show s.base+a.off+i=s.base+(a.off+i)by omega,e8]at hy
     cases hy;rfl
    subst this;exact e9
   ·cases hx
  ·rw[List.getElem?_take]at hv
   split at hv
   ·simp only[List.getElem?_drop,Array.getElem?_toList]at hv
    rw[e5_,d4_ e3];exact hv
   ·cases hv
 unfold ASt.readC at h
 split at h
 ·rename_i cs ex es hg
  split at h
  ·rename_i hsp
   obtain⟨s',e1,e2⟩:=hw.obj _ _ hg
   rw[hs]at e1;cases e1
   obtain⟨_,_,_,C,t,fr,e3,e4,e5,e6,e7⟩:=e2
   exact key cs C t fr hsp h e3 (by omega) e7
  ·cases h
 ·rename_i cs ex es hg
  split at h
  ·rename_i hsp
   obtain⟨s',e1,e2⟩:=hw.obj _ _ hg
   rw[hs]at e1;cases e1
   obtain⟨_,_,_,_,C,t,fr,e3,e6,e7⟩:=e2
   exact key cs C t fr hsp h e3 e6 e7
  ·cases h
 ·cases h
theorem aeV_{st:ASt}{a:Addr}{n:Nat}{ts:List Td}{ρ:Rho}{w:World}{s:Spot}(h:st.readT a n= .ok ts)(hw:WR ρ st.h.get w)(hs:ρ a.block=some s):
  ts.length=n∧ ∃l',TRL w (Frz ρ) ts l'∧(∀v∈l',v.oneCell'=true)∧ ∀j v,l'[j]? =some v→w.cell? ((⟨s.blk,j8_ s a,none⟩:Addr).add j)=some v:=by
 unfold ASt.readT at h
 split at h
 ·rename_i own es lo m elem hg
  split at h
  ·rename_i i hsp
   have hloc:j8_ s a=s.base+i*s.es+a.off:=by unfold j8_;rw[hsp]
   rw[hloc]
   obtain⟨s',e1,f1,f2,f3,fz,f4⟩:=hw.obj _ _ hg
   rw[hs]at e1;cases e1
   simp only[e5_]
   cases hmul:(Nat.beq a.off 0&&Nat.blt es n)with
   |true=>
    rw[hmul]at h
    simp only[cond_true]at h
    obtain⟨hc,h⟩:=ck_ h
    cases h
    simp only[Bool.and_eq_true]at hc hmul
    have hoff:a.off=0:=Nat.eq_of_beq_eq_true hmul.1
    have k1:=Nat.le_of_ble_eq_true hc.1.1
    have k2:=Nat.le_of_ble_eq_true hc.1.2
    have k3:=Nat.eq_of_beq_eq_true hc.2
    obtain⟨r1,r2⟩:=E2_ es elem (n/es) i
    refine⟨by rw[r1,k3],acb_ fun j t ht=> ?_⟩
    have hlt:=(List.getElem?_eq_some_iff.1 ht).1
    rw[r1]at hlt
    have hes:0<es:=by
     rcases Nat.eq_zero_or_pos es with h|h
     ·rw[h]at hlt;omega
     ·exact h
    have hjn:j/es<n/es:=Nat.div_lt_of_lt_mul (by rw[Nat.mul_comm];exact hlt)
    have hdm:=Nat.div_add_mod j es
    have hml:=Nat.mod_lt j hes
    rw[Nat.mul_comm]at hdm
    generalize j/es=dd at hjn hdm
    generalize j%es=rr at hml hdm
    have:=r2 dd rr hjn hml
    rw[hdm,ht]at this
    cases this
    obtain⟨y,y1,y2,y3⟩:=f4 (i+dd) (by omega) (by omega) rr hml
    refine⟨y,?_,y2,y3⟩
    rw[←y1,hoff,f1];congr 2;rw[Nat.add_mul];omega
   |false=>
    rw[hmul]at h
    simp only[cond_false]at h
    obtain⟨hc0,h⟩:=ck_ h
    obtain⟨hc,h⟩:=ck_ h
    cases h
    simp only[Bool.and_eq_true]at hc
    have k0:=Nat.le_of_ble_eq_true hc0
    have k1:=Nat.le_of_ble_eq_true hc.1
    have k2:i<m:=by simpa using hc.2
    obtain⟨r1,r2⟩:=L5_ (elem i) n a.off
    refine⟨r1,acb_ fun j t ht=> ?_⟩
    have hlt:=(List.getElem?_eq_some_iff.1 ht).1
    rw[r1]at hlt
    have:=r2 j hlt
    rw[ht]at this
    cases this
    obtain⟨y,y1,y2,y3⟩:=f4 i k1 k2 (a.off+j) (by omega)
    exact⟨y,by rw[←y1];congr 2;omega,y2,y3⟩
  ·cases h
 ·cases h
theorem LoS.skip(st:ASt)(lo:Nat)(h:lo≤st.lo):LoS st ⟨st.next+1,st.h,lo⟩:=⟨by simp,h,fun x _ _=>rfl,fun x o e=> .inl ⟨o,e⟩⟩
theorem aeA_: ∀(ts:List Td) (st:ASt),LoS st (seeT ts st).2:=by
 intro ts
 induction ts with
 |nil=>intro st;exact LoS.refl st
 |cons t ts ih=>
  intro st
  cases t with
  |sc x=>exact ih st
  |fr es n c e=>exact(LoS.new st _).trans (ih _)
theorem abS_{ρ:Rho}{g:Mem}{w:World}{k es n c:Nat}{e:Nat→Nat→Td}{y:Value}(h:TR w (Frz ρ) (.fr es n c e) y)(hw:WR ρ g w)(hf:ρ k=none):
  ∃ρ',Mv ρ ρ' g (upd g k (some (.row .still es 0 n e))) k (k+1) w w∧VR ρ' (.slice (some ⟨k,0,some 0⟩) n c) y:=by
 have hno: ∀{q:Prop},true=false→q:=by intro q h;cases h
 rcases h with⟨rfl,rfl,rfl⟩|⟨rfl,rfl,a,c',rfl⟩|⟨h0,b,o,c',rfl,h2,h3,h4⟩
 ·exact⟨_,Mv.void hw hf _ ⟨0,0,true,es,0,true,nofz⟩ (fun _ h=>h) (.inl rfl) rfl ⟨rfl,fun _=>Nat.le_refl _,(fun h=>by cases h),fun _ h=>hno h,fun i _ hi=>by omega⟩ rfl rfl rfl,.sliceN _ _⟩
 ·exact⟨_,Mv.void hw hf _ ⟨0,0,true,es,0,true,nofz⟩ (fun _ h=>h) (.inl rfl) rfl ⟨rfl,fun _=>Nat.le_refl _,(fun h=>by cases h),fun _ h=>hno h,fun i _ hi=>by omega⟩ rfl rfl rfl,.sliceE _ _ _ _ _ (a1_ _ _ _) rfl⟩
 ·have hsub:Sub ρ (upd ρ k (some ⟨b,o,true,es,0,false,nofz⟩)):=Sub.upd _ hf
  refine⟨_,Mv.void hw hf _ ⟨b,o,true,es,0,false,nofz⟩ (fun _ h=>h) (.inr ⟨rfl,h3⟩) rfl ⟨rfl,(fun h=>by cases h),(fun h=>by cases h),fun _ _=>h3.mono hsub,fun i _ hi j hj=> ?_⟩ rfl rfl rfl,.sliceI k 0 ⟨b,o,true,es,0,false,nofz⟩ _ _ c' o (a1_ _ _ _) h2 (fun _=>h0) (fun h=>by cases h) rfl (.inl (by simp))⟩
  obtain⟨z,z1,z2,z3⟩:=h4 i hi j hj
  exact⟨z,z1,z2,z3.kept (fun b=>Frz.mono hsub) (fun _ _=>rfl)⟩
theorem ahK_: ∀(ts:List Td) (st:ASt) (ρ:Rho) (w:World) (l':List Value),TRL w (Frz ρ) ts l'→WR ρ st.h.get w→b6_ ρ st.next (seeT ts st).2.next→
  ∃ρ',Mv ρ ρ' st.h.get (seeT ts st).2.h.get st.next (seeT ts st).2.next w w∧VRL ρ' (seeT ts st).1 l':=by
 intro ts
 induction ts with
 |nil=>
  intro st ρ w l' h hw hf
  have:l'=[]:=List.eq_nil_of_length_eq_zero h.1.symm
  subst this
  exact⟨ρ,Mv.refl hw _,VRL.nil _⟩
 |cons t ts ih=>
  intro st ρ w l' h hw hf
  obtain⟨y,m,rfl,hy,hm⟩:=h.uncons
  cases t with
  |sc x=>
   obtain⟨ρ',h1,h2⟩:=ih st ρ w m hm hw hf
   exact⟨ρ',h1,VRL.cons (VR.mono (o9_ _) hy) h2⟩
  |fr es n c e=>
   have hl:=(aeA_ ts (st.new (.row .still es 0 n e))).1
   have hl':st.next+1≤(seeT (.fr es n c e::ts) st).2.next:=hl
   obtain⟨ρ1,m1,v1⟩:=abS_ (k:=st.next) hy hw (hf _ (Nat.le_refl _) (by omega))
   have hg:(st.new (.row .still es 0 n e)).h.get=upd st.h.get st.next (some (.row .still es 0 n e)):=by simp[ASt.new,b0_]
   rw[←hg]at m1
   obtain⟨ρ',h1,h2⟩:=ih (st.new (.row .still es 0 n e)) ρ1 w m (hm.kept (fun b=>Frz.mono m1.ext) (fun _ _=>rfl)) m1.wr (m1.fresh hf)
   exact⟨ρ',m1.trans h1,VRL.cons (v1.mono h1.ext) h2⟩
theorem ahY_{st st':ASt}{a:Addr}{n:Nat}{l:List Value}(h:st.read a n= .ok (l,st')):LoS st st'∧ ∀{ρ:Rho} {w:World} {s:Spot},WR ρ st.h.get w→ρ a.block=some s→b6_ ρ st.next st'.next→
  ∃ρ' l',Mv ρ ρ' st.h.get st'.h.get st.next st'.next w w∧VRL ρ' l l'∧l'.length=n∧ ∀j v,l'[j]? =some v→w.cell? ((⟨s.blk,j8_ s a,none⟩:Addr).add j)=some v:=by
 unfold ASt.read at h
 cases hr:isRow (st.h.get a.block)with
 |true=>
  rw[hr]at h
  simp only[cond_true]at h
  obtain⟨ts,h1,h2⟩:=bk_ h
  have h3:seeT ts st=(l,st'):=Rs.ok.inj h2
  have e1:(seeT ts st).1=l:=by rw[h3]
  have e2:(seeT ts st).2=st':=by rw[h3]
  refine⟨by rw[←e2];exact aeA_ ts st,fun{ρ w s} hw hs hf=> ?_⟩
  obtain⟨k1,l',k2,k3,k4⟩:=aeV_ h1 hw hs
  obtain⟨ρ',m1,m2⟩:=ahK_ ts st ρ w l' k2 hw (by rw[e2];exact hf)
  rw[e2]at m1
  rw[e1]at m2
  exact⟨ρ',l',m1,m2,by rw[←k2.1];exact k1,k4⟩
 |false=>
  rw[hr]at h
  simp only[cond_false]at h
  obtain⟨l0,h1,h2⟩:=bk_ h
  cases h2
  refine⟨LoS.refl _,fun{ρ w s} hw hs hf=> ?_⟩
  obtain⟨l',k1,k2,k3⟩:=o2_ h1 hw hs
  exact⟨ρ,l',Mv.refl hw _,k1,k2,k3⟩
theorem aeH_{k k':IntKind}(h:abx_ k k'=true):k=k':=by cases k<;>cases k'<;>first|rfl|cases h
theorem aeI_{k k':FloatKind}(h:aby_ k k'=true):k=k':=by cases k<;>cases k'<;>first|rfl|cases h
theorem afF_{ρ:Rho}{v w y:Value}(h:VR ρ v y):VR ρ (mrgV true v w) y:=by
 unfold mrgV
 split
 ·rename_i k n k' m
  cases hk:abx_ k k' with
  |true=>exact h
  |false=>exact .any _
 ·exact h
 ·rename_i k x k' y'
  cases hk:aby_ k k' with
  |true=>exact h
  |false=>exact .any _
 ·exact h
 ·exact h
theorem acW_{ρ:Rho}{v w y:Value}(h:VR ρ w y):VR ρ (mrgV false v w) y:=by
 unfold mrgV
 split
 ·rename_i k n k' m
  cases hk:abx_ k k' with
  |true=>have:=aeH_ hk;subst this;exact h
  |false=>exact .any _
 ·exact h
 ·rename_i k x k' y'
  cases hk:aby_ k k' with
  |true=>have:=aeI_ hk;subst this;exact h
  |false=>exact .any _
 ·exact h
 ·exact h
theorem G0_{w:World}{F:Nat→Prop}: ∀{t u:Td} {y:Value},TR w F t y→TR w F (mrgT true t u) y:=by
 intro t
 induction t with
 |sc x=>
  intro u y h
  cases u with
  |sc z=>exact afF_ h
  |fr=>exact h
 |fr es n c e ih=>
  intro u y h
  cases u with
  |sc z=>exact h
  |fr es' n' c' e'=>
   simp only[mrgT]
   cases hs:g0_ es n es' n' with
   |false=>exact h
   |true=>
    simp only[cond_true]
    rcases h with h|h|⟨h0,b,o,c2,h1,h2,h3,h4⟩
    ·exact .inl h
    ·exact .inr (.inl h)
    ·refine .inr (.inr ⟨h0,b,o,c2,h1,h2,h3,?_⟩)
     have he:cond (Nat.beq es 0) es' es=es∨es=0:=by
      cases hb:Nat.beq es 0 with
      |false=>exact .inl rfl
      |true=>exact .inr (Nat.eq_of_beq_eq_true hb)
     rcases he with he|he
     ·rw[he]
      intro i hi j hj
      obtain⟨z,z1,z2,z3⟩:=h4 i hi j hj
      exact⟨z,z1,z2,ih i j z3⟩
     ·subst he
      have hb0:Nat.beq 0 0=true:=rfl
      rw[hb0]
      simp only[g0_,hb0,Bool.true_and,Bool.or_eq_true,Bool.and_eq_true]at hs
      have hes:es'=0:=by
       rcases hs with(hs|hs)|hs
       ·exact(Nat.eq_of_beq_eq_true hs).symm
       ·have:=Nat.eq_of_beq_eq_true hs;omega
       ·exact Nat.eq_of_beq_eq_true hs.1
      subst hes
      intro i hi j hj
      simp only[cond_true]at hj
      omega
theorem r2_{w:World}{F:Nat→Prop}: ∀{t u:Td} {y:Value},TR w F u y→TR w F (mrgT false t u) y:=by
 intro t
 induction t with
 |sc x=>
  intro u y h
  cases u with
  |sc z=>exact acW_ h
  |fr=>exact h
 |fr es n c e ih=>
  intro u y h
  cases u with
  |sc z=>exact h
  |fr es' n' c' e'=>
   simp only[mrgT]
   cases hs:g0_ es n es' n' with
   |false=>exact h
   |true=>
    simp only[cond_true,cond_false]
    rcases h with h|h|⟨h0,b,o,c2,h1,h2,h3,h4⟩
    ·exact .inl h
    ·exact .inr (.inl h)
    ·refine .inr (.inr ⟨h0,b,o,c2,h1,h2,h3,?_⟩)
     have he:cond (Nat.beq es 0) es' es=es'∨es'=0:=by
      cases hb:Nat.beq es 0 with
      |true=>exact .inl rfl
      |false=>
       simp only[cond_false]
       simp only[g0_,hb,Bool.false_and,Bool.or_false,Bool.or_eq_true,Bool.and_eq_true]at hs
       rcases hs with hs|hs
       ·exact .inl (Nat.eq_of_beq_eq_true hs)
       ·exact .inr (Nat.eq_of_beq_eq_true hs.1)
     rcases he with he|he
     ·rw[he]
      intro i hi j hj
      obtain⟨z,z1,z2,z3⟩:=h4 i hi j hj
      exact⟨z,z1,z2,ih i j z3⟩
     ·subst he
      have:cond (Nat.beq es 0) 0 es=0:=by
       cases hb:Nat.beq es 0 with
       |true=>rfl
       |false=>
        simp only[g0_,hb,Bool.false_and,Bool.or_false,Bool.or_eq_true,Bool.and_eq_true]at hs
        rcases hs with hs|hs
        ·cases hs
        ·have:=Nat.eq_of_beq_eq_true hs.2;omega
      rw[this]
      intro i hi j hj
      omega
theorem mrgT_rel{w:World}{F:Nat→Prop}{b:Bool}{t u:Td}{y:Value}(h1:b=true→TR w F t y)(h2:b=false→TR w F u y):TR w F (mrgT b t u) y:=by
 cases b with
 |true=>exact G0_ (h1 rfl)
 |false=>exact r2_ (h2 rfl)
theorem b8_{a b:Nat}(h:a≠b):Nat.beq a b=false:=by
 cases hb:Nat.beq a b with
 |true=>exact absurd (Nat.eq_of_beq_eq_true hb) h
 |false=>rfl
theorem m2_{a b:Nat}(h: ¬a<b):Nat.blt a b=false:=by
 cases hb:Nat.blt a b with
 |true=>exact absurd (by simpa using hb) h
 |false=>rfl
theorem A9_{w:World}{F:Nat→Prop}{es:Nat}: ∀(n:Nat) (ts:List Td) (i j:Nat) (t:Td) (y:Value),i<n→j<es→ts[i*es+j]? =some t→TR w F t y→TR w F (selT es n ts i j) y:=by
 intro n
 induction n with
 |zero=>intro ts i j t y hi;omega
 |succ n ih=>
  intro ts i j t y hi hj ht h
  cases n with
  |zero=>
   have:i=0:=by omega
   subst this
   simp only[Nat.zero_mul,Nat.zero_add]at ht
   show TR w F (nthT ts j) y
   rw[m9_ ts j t ht];exact h
  |succ n=>
   show TR w F (mrgT (Nat.beq i 0) (nthT ts j) (selT es (n+1) (I8_ es ts) (i-1) j)) y
   cases i with
   |zero=>
    refine G0_ ?_
    simp only[Nat.zero_mul,Nat.zero_add]at ht
    rw[m9_ ts j t ht];exact h
   |succ i=>
    have hb:Nat.beq (i+1) 0=false:=rfl
    rw[hb]
    refine r2_ (ih _ _ j t y (by omega) hj ?_ h)
    rw[aiQ_,List.getElem?_drop,←ht]
    congr 1;rw[Nat.succ_mul];simp;omega
theorem W5_{st st':ASt}{b:Nat}(h:froze st b= .ok st'):LoS st st'∧ ∀{ρ:Rho} {w:World} {s:Spot},WR ρ st.h.get w→ρ b=some s→b6_ ρ st.next st'.next→ ∃ρ',Mv ρ ρ' st.h.get st'.h.get st.next st'.next w w∧(s.void=false→Frz ρ' s.blk):=by
 have los: ∀(o:AObj),(∃o',st.h.get b=some o')→LoS st ⟨st.next+1,st.h.set b (some o),minN st.lo b⟩:=fun o ho=>by
  have h1:LoS st (st.set b (some o)):=LoS.set st b (some o) (.inr ho)
  have h2:=LoS.skip (st.set b (some o)) (minN st.lo b) (Nat.le_refl _)
  exact h1.trans h2
 unfold froze at h
 split at h
 ·rename_i es lo n e hg
  cases h
  refine⟨los _ ⟨_,hg⟩,fun{ρ w s} hw hs hf=> ?_⟩
  have hfn:=hf st.next (Nat.le_refl _) (Nat.lt_succ_self _)
  obtain⟨s',e1,f1,f2,f3,fz,f4⟩:=hw.obj _ _ hg
  rw[hs]at e1;cases e1
  have hsub:Sub ρ (upd ρ st.next (some ⟨0,0,true,0,0,true,fun b'=>s.void=false∧b'=s.blk⟩)):=Sub.upd _ hfn
  have hmark:s.void=false→Frz (upd ρ st.next (some ⟨0,0,true,0,0,true,fun b'=>s.void=false∧b'=s.blk⟩)) s.blk:=fun hv=>⟨st.next,_,a1_ _ _ _,hv,rfl⟩
  refine⟨_,?_,hmark⟩
  simp only[b0_]
  refine Mv.froze hw hfn hg rfl hs rfl rfl (fun b'=>Iff.rfl) ⟨f1,f2,(fun h=>by cases h),fun _ hv=>hmark hv,fun i k1 k2 j hj=> ?_⟩
  obtain⟨y,y1,y2,y3⟩:=f4 i k1 k2 j hj
  exact⟨y,y1,y2,y3.kept (fun b=>Frz.mono hsub) (fun _ _=>rfl)⟩
 ·rename_i es lo n e hg
  cases h
  refine⟨LoS.refl _,fun{ρ w s} hw hs hf=>⟨ρ,Mv.refl hw _,fun hv=> ?_⟩⟩
  obtain⟨s',e1,f1,f2,f3,fz,f4⟩:=hw.obj _ _ hg
  rw[hs]at e1;cases e1
  exact fz rfl hv
 ·rename_i cs ex es hg
  cases h
  refine⟨los _ ⟨_,hg⟩,fun{ρ w s} hw hs hf=> ?_⟩
  have hfn:=hf st.next (Nat.le_refl _) (Nat.lt_succ_self _)
  obtain⟨s',e1,f0,f1,f2,C,t,fr,f3,f4,f5,f6,f7⟩:=hw.obj _ _ hg
  rw[hs]at e1;cases e1
  have hsub:Sub ρ (upd ρ st.next (some ⟨0,0,true,0,0,true,fun b'=>s.void=false∧b'=s.blk⟩)):=Sub.upd _ hfn
  have hmark:Frz (upd ρ st.next (some ⟨0,0,true,0,0,true,fun b'=>s.void=false∧b'=s.blk⟩)) s.blk:=⟨st.next,_,a1_ _ _ _,f0,rfl⟩
  refine⟨_,?_,fun _=>hmark⟩
  simp only[b0_]
  refine Mv.froze hw hfn hg rfl hs rfl rfl (fun b'=>Iff.rfl) ⟨f0,f1,f2,hmark,C,t,fr,f3,by omega,fun i x hx=> ?_⟩
  obtain⟨y,y1,y2⟩:=f7 i x hx
  exact⟨y,y1,y2.mono hsub⟩
 ·rename_i cs ex es hg
  cases h
  refine⟨LoS.refl _,fun{ρ w s} hw hs hf=>⟨ρ,Mv.refl hw _,fun hv=> ?_⟩⟩
  obtain⟨s',e1,f0,f1,f2,fz,_⟩:=hw.obj _ _ hg
  rw[hs]at e1;cases e1
  exact fz
 ·cases h
theorem i9_{ρ:Rho}{x y:Value}(hs:s2_ x=true)(h:VR ρ x y):VR I3_ x y∧y.oneCell'=true:=by
 have main:(ground 3 x&&oneC x)=true→VR I3_ x y∧y.oneCell'=true:=fun hs=>by
  simp only[Bool.and_eq_true]at hs
  have:=VR.ground 3 hs.1 h
  subst this
  refine⟨VR.refl 3 hs.1,?_⟩
  cases y<;>first|rfl|simp[oneC]at hs
 cases x with
 |float k b=>
  cases h with
  |float k b=>exact⟨.float k b,rfl⟩
  |nan k b b' h h'=>exact⟨.nan k b _ h h',rfl⟩
 |_=>exact main hs
def ToR(v:Value)(st st':ASt)(t:Td):Prop:=LoS st st'∧ ∀{ρ:Rho} {w:World} {y:Value},VR ρ v y→WR ρ st.h.get w→b6_ ρ st.next st'.next→ ∃ρ',Mv ρ ρ' st.h.get st'.h.get st.next st'.next w w∧TR w (Frz ρ') t y∧y.oneCell'=true
theorem q4_{g:Value→ASt→Rs (Td×ASt)}(hg: ∀v st t st',g v st= .ok (t,st')→ToR v st st' t): ∀(l:List Value) (st st':ASt) (ts:List Td),toTs g l st= .ok (ts,st')→
  LoS st st'∧ ∀{ρ:Rho} {w:World} {l':List Value},VRL ρ l l'→WR ρ st.h.get w→b6_ ρ st.next st'.next→ ∃ρ',Mv ρ ρ' st.h.get st'.h.get st.next st'.next w w∧TRL w (Frz ρ') ts l'∧ ∀v∈l',v.oneCell'=true:=by
 intro l
 induction l with
 |nil=>
  intro st st' ts h
  cases h
  refine⟨LoS.refl _,fun{ρ w l'} hv hw hf=> ?_⟩
  have:=hv.nil_inv
  subst this
  exact⟨ρ,Mv.refl hw _,TRL.nil _ _,fun v hv=>by simp at hv⟩
 |cons v l ih=>
  intro st st' ts h
  unfold toTs at h
  obtain⟨⟨t,st1⟩,h1,h⟩:=bk_ h
  obtain⟨⟨ts',st2⟩,h2,h⟩:=bk_ h
  cases h
  obtain⟨a1,a2⟩:=hg _ _ _ _ h1
  obtain⟨b1,b2⟩:=ih _ _ _ h2
  refine⟨a1.trans b1,fun{ρ w l'} hv hw hf=> ?_⟩
  obtain⟨y,m,rfl,hy,hm⟩:=hv.uncons
  obtain⟨ρ1,m1,t1,o1⟩:=a2 hy hw (hf.left b1.1)
  obtain⟨ρ2,m2,t2,o2⟩:=b2 (hm.mono m1.ext) m1.wr (m1.fresh hf)
  refine⟨ρ2,m1.trans m2,TRL.cons (t1.kept (fun b=>Frz.mono m2.ext) (fun _ _=>rfl)) t2,fun u hu=> ?_⟩
  rcases List.mem_cons.1 hu with rfl|hu
  ·exact o1
  ·exact o2 u hu
theorem Y1_{ρ:Rho}{g:Mem}{w:World}{b es:Nat}{cs:List Value}{s:Spot}(h:L6_ (g b)=some (cs,es))(hw:WR ρ g w)(hs:ρ b=some s):
  s.void=false∧ ∃C t fr,w.heap[s.blk]? =some (.cells C t fr)∧s.base+cs.length≤C.size∧ ∀(i:Nat) (x:Value),cs[i]? =some x→ ∃y,C[s.base+i]? =some y∧VR ρ x y:=by
 unfold L6_ at h
 split at h
 ·rename_i cs' ex es' hg
  cases h
  obtain⟨s',e1,f0,f1,f2,C,t,fr,f3,f4,f5,f6,f7⟩:=hw.obj _ _ hg
  rw[hs]at e1;cases e1
  exact⟨f0,C,t,fr,f3,by omega,f7⟩
 ·rename_i cs' ex es' hg
  cases h
  obtain⟨s',e1,f0,f1,f2,fz,C,t,fr,f3,f6,f7⟩:=hw.obj _ _ hg
  rw[hs]at e1;cases e1
  exact⟨f0,C,t,fr,f3,f6,f7⟩
 ·cases h
theorem D5_: ∀(f:Nat) (v:Value) (st:ASt) (t:Td) (st':ASt),toT f v st= .ok (t,st')→ToR v st st' t:=by
 intro f
 induction f with
 |zero=>intro v st t st' h;cases h
 |succ f ih=>
  intro v st t st' h
  unfold toT at h
  split at h
  ·cases h
   refine⟨LoS.refl _,fun{ρ w y} hv hw hf=> ?_⟩
   cases hv
   exact⟨ρ,Mv.refl hw _,.inl ⟨rfl,rfl,rfl⟩,rfl⟩
  ·rename_i b i0 n c
   split at h
   ·rename_i k es lo m g hg
    obtain⟨hc,h⟩:=ck_ h
    obtain⟨st1,h1,h⟩:=bk_ h
    cases h
    simp only[Bool.and_eq_true]at hc
    have k1:=Nat.le_of_ble_eq_true hc.1
    have k2:=Nat.le_of_ble_eq_true hc.2
    obtain⟨a1,a2⟩:=W5_ h1
    refine⟨a1,fun{ρ w y} hv hw hf=> ?_⟩
    obtain⟨s,e1,_⟩:=hw.obj _ _ hg
    obtain⟨ρ',m1,m2⟩:=a2 hw e1 hf
    refine⟨ρ',m1,?_⟩
    cases hv with
    |sliceI _ _ s' _ _ c' o' hsp hnc hcc hro hvd ho=>
     rw[hsp]at e1;cases e1
     refine⟨?_,rfl⟩
     rcases Nat.eq_zero_or_pos n with h0|h0
     ·subst h0
      have hc0:c=0:=by
       rcases Nat.eq_zero_or_pos c with h|h
       ·exact h
       ·have:=hcc (by omega);omega
      exact .inr (.inl ⟨rfl,hc0,_,_,rfl⟩)
     ·obtain⟨s'',e2,f1,f2,f3,fz,f4⟩:=hw.obj _ _ hg
      rw[hsp]at e2;cases e2
      have ho':o'=s.base+i0*s.es:=by rcases ho with ho|ho;exact ho;omega
      refine .inr (.inr ⟨h0,s.blk,o',c',rfl,hnc,m2 hvd,fun i hi j hj=> ?_⟩)
      obtain⟨z,z1,z2,z3⟩:=f4 (i0+i) (by omega) (by omega) j hj
      refine⟨z,?_,z2,z3.kept (fun b=>Frz.mono m1.ext) (fun _ _=>rfl)⟩
      rw[←z1,ho',f1];congr 2;rw[Nat.add_mul];omega
    |sliceE _ _ c' x s' hsx hex=>exact⟨.inr (.inl ⟨rfl,rfl,_,_,rfl⟩),rfl⟩
    |sliceN=>exact⟨.inl ⟨rfl,rfl,rfl⟩,rfl⟩
    |sliceZ=>exact⟨.inr (.inl ⟨rfl,rfl,_,_,rfl⟩),rfl⟩
   ·cases h
  ·rename_i b o n c
   split at h
   ·rename_i cs es hg
    obtain⟨hc,h⟩:=ck_ h
    obtain⟨l,h1,h⟩:=bk_ h
    obtain⟨⟨ts,st1⟩,h2,h⟩:=bk_ h
    obtain⟨st2,h3,h⟩:=bk_ h
    cases h
    simp only[Bool.and_eq_true]at hc
    have k2:=Nat.le_of_ble_eq_true hc.2
    have h1:=O9_ h1
    obtain⟨p1,p2⟩:=q5_ h1
    rw[B9_]at p1 p2
    obtain⟨b1,b2⟩:=q4_ (ih) _ _ _ _ h2
    obtain⟨a1,a2⟩:=W5_ h3
    refine⟨b1.trans a1,fun{ρ w y} hv hw hf=> ?_⟩
    cases hv with
    |slice _ _ s _ _ c' o' hsp hn hcc hxx hro hoo=>
     obtain⟨f0,C,tt,fr,f3,f6,f7⟩:=Y1_ hg hw hsp
     have hlen:l.length=n*es:=by rw[p2];simp at p1 ⊢;omega
     let l':=(C.toList.drop (s.base+o)).take (n*es)
     have hl': ∀j z,l'[j]? =some z→j<n*es∧C[s.base+o+j]? =some z:=by
      intro j z hz
      simp only[l',List.getElem?_take]at hz
      split at hz
      ·rename_i hj
       simp only[List.getElem?_drop,Array.getElem?_toList]at hz
       exact⟨hj,hz⟩
      ·cases hz
     have hll:l'.length=n*es:=by simp[l'];omega
     have hvl:VRL ρ l l':=by
      refine⟨by rw[hlen,hll],fun j x z hx hz=> ?_⟩
      rw[p2,List.getElem?_take]at hx
      split at hx
      ·rw[List.getElem?_drop]at hx
       obtain⟨z',z1,z2⟩:=f7 _ x hx
       have:=(hl' j z hz).2
       rw[show s.base+o+j=s.base+(o+j)by omega,z1]at this
       cases this;exact z2
      ·cases hx
     obtain⟨ρ1,m1,t1,o1⟩:=b2 hvl hw (hf.left a1.1)
     obtain⟨ρ2,m2,t2⟩:=a2 m1.wr (m1.ext _ _ hsp) (m1.fresh hf)
     refine⟨ρ2,m1.trans m2,?_,rfl⟩
     rcases Nat.eq_zero_or_pos n with h0|h0
     ·subst h0
      exact .inr (.inl ⟨rfl,rfl,_,_,rfl⟩)
     ·have ho':o'=s.base+o:=by rcases hoo with h|h;exact h;omega
      refine .inr (.inr ⟨h0,s.blk,o',c',rfl,by omega,t2 f0,fun i hi j hj=> ?_⟩)
      have hij:i*es+j<n*es:=by
       have:=Nat.mul_le_mul_right es (Nat.succ_le_of_lt hi)
       rw[Nat.succ_mul]at this;omega
      have hz:l'[i*es+j]? =some l'[i*es+j]:=List.getElem?_eq_getElem (by omega)
      obtain⟨_,q2⟩:=hl' _ _ hz
      have htl:i*es+j<ts.length:=by rw[t1.1,hll];exact hij
      have ht:ts[i*es+j]? =some ts[i*es+j]:=List.getElem?_eq_getElem htl
      refine⟨_,?_,o1 _ (List.mem_of_getElem? hz),A9_ n ts i j _ _ hi hj ht ((t1.2 _ _ _ ht hz).kept (fun b=>Frz.mono m2.ext) (fun _ _=>rfl))⟩
      rw[d4_ f3,ho',←q2];congr 1;omega
   ·cases h
  ·obtain⟨hs,h⟩:=ck_ h
   cases h
   refine⟨LoS.refl _,fun{ρ w y} hv hw hf=> ?_⟩
   obtain⟨q1,q2⟩:=i9_ hs hv
   exact⟨ρ,Mv.refl hw _,q1,q2⟩
theorem J0_{P:Program}{st st':ASt}{a:Addr}{vs vs':List Value}{ρ:Rho}{w:World}{s:Spot}(h:st.writeC a vs= .ok st')(hw:WR ρ st.h.get w)(hs:ρ a.block=some s)(hv:VRL ρ vs vs')(h1: ∀v∈vs',v.oneCell'=true):
  ∃w',(storeCells ⟨s.blk,j8_ s a,none⟩ vs' 0).run P w= .ok () w'∧Mv ρ ρ st.h.get st'.h.get st.next st'.next w w':=by
 unfold ASt.writeC at h
 split at h
 ·rename_i cs ex es hg
  split at h
  ·rename_i cs' hsp hlay
   have hloc:j8_ s a=s.base+a.off:=by unfold j8_;rw[hsp]
   rw[hloc]
   obtain⟨_,h2⟩:=ck_ h
   cases h2
   obtain⟨l1,l2,l3⟩:=G2_ hlay
   obtain⟨s',e1,e2⟩:=hw.obj _ _ hg
   rw[hs]at e1;cases e1
   obtain⟨x0,x1,x2,C,t,fr,e3,e4,e5,e6,e7⟩:=e2
   have hb:s.base+a.off+0+vs'.length≤C.size∨vs'=[]:=by
    cases vs' with
    |nil=>exact .inr rfl
    |cons v l=>
     left
     have:=l2 (by intro e;have:=hv.1;simp[e]at this)
     have:=hv.1
     omega
   rcases hb with hb|hb
   ·obtain⟨C',w',k1,k2,k3,k4,k5,k6,k7,k8,k9⟩:=d8_ P s.blk (s.base+a.off) t fr vs' 0 C w e3 e5.free hb h1
    refine⟨w',k1,?_⟩
    have:(st.set a.block (some (.cells cs' ex es))).h.get=upd st.h.get a.block (some (.cells cs' ex es)):=by simp[ASt.set,b0_]
    rw[this]
    refine Mv.write _ hw hg rfl hs x0 _ rfl ⟨x0,x1,x2,C',t,fr,k2,k3.trans e4,by rw[k3];exact e5,by rw[l1];exact e6,fun i x hx=> ?_⟩ k5 k6 k7 k8 k9
    rw[l3]at hx
    rw[k4]
    simp only[Nat.add_zero]
    have:=hv.1
    by_cases hi:a.off≤i∧i<a.off+vs.length
    ·rw[if_pos hi]at hx
     obtain⟨y,hy,hxy⟩:=hv.get hx
     rw[if_pos (by omega),show s.base+i-(s.base+a.off)=i-a.off by omega]
     exact⟨y,hy,hxy⟩
    ·rw[if_neg hi]at hx
     rw[if_neg (by omega)]
     exact e7 i x hx
   ·subst hb
    have hvs:vs=[]:=List.eq_nil_of_length_eq_zero (by have:=hv.1;simpa using this)
    refine⟨w,rfl,?_⟩
    have hcs:cs'=cs:=by
     apply List.ext_getElem?
     intro i;rw[l3,if_neg (by rw[hvs];simp)]
    have:(st.set a.block (some (.cells cs' ex es))).h.get=st.h.get:=by
     funext x
     simp only[ASt.set,b0_]
     by_cases hx:x=a.block
     ·subst hx;rw[a1_,hcs,hg]
     ·rw[a2_ _ _ hx]
    rw[this]
    exact Mv.refl hw _
  ·cases h
 ·cases h
theorem acy_{P:Program}{st st':ASt}{a:Addr}{ts:List Td}{vs':List Value}{ρ:Rho}{w:World}{s:Spot}(h:st.writeR a ts= .ok st')(hw:WR ρ st.h.get w)(hs:ρ a.block=some s)(hv:TRL w (Frz ρ) ts vs')(h1: ∀v∈vs',v.oneCell'=true):
  ∃w',(storeCells ⟨s.blk,j8_ s a,none⟩ vs' 0).run P w= .ok () w'∧Mv ρ ρ st.h.get st'.h.get st.next st'.next w w':=by
 unfold ASt.writeR at h
 split at h
 ·rename_i es lo n elem hg
  split at h
  ·rename_i i hsp
   have hloc:j8_ s a=s.base+i*s.es+a.off:=by unfold j8_;rw[hsp]
   rw[hloc]
   obtain⟨hoff,h⟩:=ck_ h
   obtain⟨hin,h⟩:=ck_ h
   cases h
   have hoff:=Nat.le_of_ble_eq_true hoff
   have hin:i<n:=by simpa using hin
   obtain⟨s',e1,x1,x2,x3,xz,x4⟩:=hw.obj _ _ hg
   rw[hs]at e1;cases e1
   obtain⟨y1,y2,y3⟩:=x3 rfl
   have hvoid:s.void=false:=by
    cases hq:s.void with
    |false=>rfl
    |true=>have:=x2 hq;omega
   obtain⟨C,t,fr,e3,e4,e5,e6⟩:=y3 hvoid
   have hlv:=hv.1
   have hmul: ∀p q:Nat,p<q→p*es+es≤q*es:=fun p q hpq=>by
    have:=Nat.mul_le_mul_right es (Nat.succ_le_of_lt hpq)
    rw[Nat.succ_mul]at this;exact this
   have hi1:=hmul i n hin
   rw[x1]
   obtain⟨C',w',k1,k2,k3,k4,k5,k6,k7,k8,k9⟩:=d8_ P s.blk (s.base+i*es+a.off) t fr vs' 0 C w e3 e5.free (by omega) h1
   refine⟨w',k1,?_⟩
   have:(st.set a.block (some (.row .mine es lo n (putT i a.off ts elem)))).h.get=upd st.h.get a.block (some (.row .mine es lo n (putT i a.off ts elem))):=by simp[ASt.set,b0_]
   rw[this]
   have hfzk: ∀b,Frz ρ b→w'.heap[b]? =w.heap[b]? :=fun b hb=>k6 b fun e=>(hw.fz b hb).2 ⟨a.block,_,s,hg,rfl,hs,hvoid,e.symm⟩
   refine Mv.write _ hw hg rfl hs hvoid _ rfl ⟨x1,x2,fun _=>⟨y1,y2,fun _=>⟨C',t,fr,k2,k3.trans e4,by rw[k3];exact e5,e6⟩⟩,(fun h=>by cases h),fun k hk1 hk2 j hj=> ?_⟩ k5 k6 k7 k8 k9
   have hk3:=hmul k n hk2
   rw[x1,d4_ k2,k4]
   obtain⟨yo,hyo,h1o,hto⟩:=x4 k hk1 hk2 j hj
   rw[x1,d4_ e3]at hyo
   have hto:=hto.kept (fun _ h=>h) hfzk
   unfold putT
   by_cases hjj:a.off≤j∧j<a.off+ts.length
   ·have hb:(Nat.ble a.off j&&Nat.blt j (a.off+ts.length))=true:=by simpa using hjj
    rw[hb]
    by_cases hki:k=i
    ·subst hki
     have ht:ts[j-a.off]? =some ts[j-a.off]:=List.getElem?_eq_getElem (by omega)
     obtain⟨y,hy,hty⟩:=hv.get ht
     refine⟨y,?_,h1 y (List.mem_of_getElem? hy),?_⟩
     ·rw[if_pos (by omega),←hy];congr 1;omega
     ·simp only[cond_true,Nat.beq_refl]
      rw[m9_ ts _ _ ht]
      exact G0_ (hty.kept (fun _ h=>h) hfzk)
    ·have hne: ¬(s.base+i*es+a.off+0≤s.base+k*es+j∧s.base+k*es+j<s.base+i*es+a.off+0+vs'.length):=by
      rcases Nat.lt_or_gt_of_ne hki with h|h
      ·have:=hmul k i h;omega
      ·have:=hmul i k h;omega
     rw[if_neg hne]
     refine⟨yo,hyo,h1o,?_⟩
     simp only[cond_true,b8_ hki]
     exact r2_ hto
   ·have hb:(Nat.ble a.off j&&Nat.blt j (a.off+ts.length))=false:=by
     cases hq:(Nat.ble a.off j&&Nat.blt j (a.off+ts.length))with
     |true=>exact absurd (by simpa using hq) hjj
     |false=>rfl
    rw[hb]
    have hne: ¬(s.base+i*es+a.off+0≤s.base+k*es+j∧s.base+k*es+j<s.base+i*es+a.off+0+vs'.length):=by
     rcases Nat.lt_trichotomy k i with h|h|h
     ·have:=hmul k i h;omega
     ·subst h;omega
     ·have:=hmul i k h;omega
    rw[if_neg hne]
    exact⟨yo,hyo,h1o,hto⟩
  ·cases h
 ·cases h
theorem ady_{P:Program}{st st':ASt}{a:Addr}{vs vs':List Value}{ρ:Rho}{w:World}{s:Spot}(h:st.write a vs= .ok st')(hw:WR ρ st.h.get w)(hs:ρ a.block=some s)(hv:VRL ρ vs vs')(h1: ∀v∈vs',v.oneCell'=true)(hf:b6_ ρ st.next st'.next):
  ∃ρ' w',(storeCells ⟨s.blk,j8_ s a,none⟩ vs' 0).run P w= .ok () w'∧Mv ρ ρ' st.h.get st'.h.get st.next st'.next w w':=by
 unfold ASt.write at h
 cases hr:isRow (st.h.get a.block)with
 |true=>
  rw[hr]at h
  simp only[cond_true]at h
  obtain⟨⟨ts,st1⟩,h2,h3⟩:=bk_ h
  obtain⟨b1,b2⟩:=q4_ (D5_ 4) _ _ _ _ h2
  have hn:st'.next=st1.next:=by
   unfold ASt.writeR at h3
   split at h3
   ·split at h3
    ·obtain⟨_,h3⟩:=ck_ h3
     obtain⟨_,h3⟩:=ck_ h3
     cases h3;rfl
    ·cases h3
   ·cases h3
  obtain⟨ρ1,m1,t1,o1⟩:=b2 hv hw (by rw[←hn];exact hf)
  obtain⟨w',k1,k2⟩:=acy_ (P:=P) h3 m1.wr (m1.ext _ _ hs) t1 h1
  exact⟨ρ1,w',k1,m1.trans k2⟩
 |false=>
  rw[hr]at h
  simp only[cond_false]at h
  obtain⟨w',k1,k2⟩:=J0_ (P:=P) h hw hs hv h1
  exact⟨ρ,w',k1,k2⟩
theorem R1_{st st':ASt}{a:Addr}{vs:List Value}(h:st.writeC a vs= .ok st'):LoS st st':=by
 unfold ASt.writeC at h
 split at h
 ·rename_i cs ex es hg
  split at h
  ·obtain⟨_,h2⟩:=ck_ h
   cases h2
   exact LoS.set _ _ _ (.inr ⟨_,hg⟩)
  ·cases h
 ·cases h
theorem ahf_{st st':ASt}{a:Addr}{vs:List Value}(h:st.write a vs= .ok st'):LoS st st':=by
 unfold ASt.write at h
 cases hr:isRow (st.h.get a.block)with
 |true=>
  rw[hr]at h
  simp only[cond_true]at h
  obtain⟨⟨ts,st1⟩,h2,h3⟩:=bk_ h
  obtain⟨b1,_⟩:=q4_ (D5_ 4) _ _ _ _ h2
  refine b1.trans ?_
  unfold ASt.writeR at h3
  split at h3
  ·rename_i es lo n elem hg
   split at h3
   ·obtain⟨_,h3⟩:=ck_ h3
    obtain⟨_,h3⟩:=ck_ h3
    cases h3
    exact LoS.set _ _ _ (.inr ⟨_,hg⟩)
   ·cases h3
  ·cases h3
 |false=>
  rw[hr]at h
  exact R1_ h
theorem acG_{v:Value}(h:s2_ v=true):oneC v=true:=by
 unfold s2_ at h
 split at h
 ·rfl
 ·simp only[Bool.and_eq_true]at h;exact h.2
theorem ahx_{f:Nat}{v:Value}{st st':ASt}{t:Td}(h:toT f v st= .ok (t,st')):oneC v=true:=by
 cases f with
 |zero=>cases h
 |succ f=>
  unfold toT at h
  split at h
  ·rfl
  ·rfl
  ·rfl
  ·exact acG_ (ck_ h).1
theorem aei_{f:Nat}: ∀{l:List Value} {st st':ASt} {ts:List Td},toTs (toT f) l st= .ok (ts,st')→l.all oneC=true:=by
 intro l
 induction l with
 |nil=>intro st st' ts h;rfl
 |cons v l ih=>
  intro st st' ts h
  unfold toTs at h
  obtain⟨⟨t,st1⟩,h1,h⟩:=bk_ h
  obtain⟨⟨ts',st2⟩,h2,h⟩:=bk_ h
  simp only[List.all_cons,Bool.and_eq_true]
  exact⟨ahx_ h1,ih h2⟩
theorem C3_{st st':ASt}{a:Addr}{vs:List Value}(h:st.writeC a vs= .ok st'):vs.all oneC=true:=by
 unfold ASt.writeC at h
 split at h
 ·split at h
  ·exact(ck_ h).1
  ·cases h
 ·cases h
theorem acx_{st st':ASt}{a:Addr}{vs:List Value}(h:st.write a vs= .ok st'):vs.all oneC=true:=by
 unfold ASt.write at h
 cases hr:isRow (st.h.get a.block)with
 |true=>
  rw[hr]at h
  simp only[cond_true]at h
  obtain⟨⟨ts,st1⟩,h2,h3⟩:=bk_ h
  exact aei_ h2
 |false=>
  rw[hr]at h
  exact C3_ h
theorem alA_{P:Program}{o:Oper}{f:AFr}{st st':ASt}{t:TypeId}{x:Operand}{a0:Addr}{n:Nat}{l:List Value}{v:Value}(h:o.op= .load t x)(hx:f.ev x= .pointer (some a0))(h1:b3_ P t= .ok n)(h2:st.read a0 n= .ok (l,st'))
  (h3:aaf_ P t l= .ok v):OpR P o f st (.val v st'):=by
 obtain⟨q1,q2⟩:=ahY_ h2
 refine⟨q1,fun ρ w a hf hw hfr=> ?_⟩
 have hc:=hf.ev x
 rw[hx]at hc
 obtain⟨s,e2,e3⟩:=hc.ptr_loc
 obtain⟨ρ',l',m1,r1,r2,r3⟩:=q2 hw e2 hfr
 rcases shutL_run h3 with⟨h8,rfl⟩|⟨h8,rfl⟩
 ·refine⟨ρ',.agg l'.toArray,w,.inl ?_,VR.agg' r1,m1⟩
  have:=run_loadCells_list (P:=P) (w:=w) ⟨s.blk,j8_ s a0,none⟩ l' r3
  rw[r2]at this
  simp[execOp,h,e3,Instr.loadAt,Instr.sureAddr,loadVar,q7_ h8,a3_ h1,this]
 ·obtain⟨y,m,rfl,hy,hm⟩:=r1.uncons
  refine⟨ρ',y,w,.inl ?_,hy,m1⟩
  have:=r3 0 y (by simp)
  simp only[e5_,Nat.add_zero]at this
  simp[execOp,h,e3,Instr.loadAt,Instr.sureAddr,loadVar,q7_ h8,this]
theorem aij_{P:Program}{o:Oper}{f:AFr}{st st':ASt}{t:TypeId}{x y:Operand}{a0:Addr}{n:Nat}(h:o.op= .store t x y)(hx:f.ev x= .pointer (some a0))(h1:b3_ P t= .ok n)(h2:(e7_ (f.ev y)).length=n)
  (h3:st.write a0 (e7_ (f.ev y))= .ok st'):OpR P o f st (.val undef st'):=by
 refine⟨ahf_ h3,fun ρ w a hf hw hfr=> ?_⟩
 have hc:=hf.ev x
 rw[hx]at hc
 obtain⟨s,e2,e3⟩:=hc.ptr_loc
 obtain⟨r1,r2⟩:=x8_ (hf.ev y) (acx_ h3)
 obtain⟨ρ',w',k1,k2⟩:=ady_ (P:=P) h3 hw e2 r1 r2 hfr
 refine⟨ρ',undef,w',.inr ⟨?_,rfl⟩,.tuple _ _ rfl (fun i x y hx=>by simp at hx),k2⟩
 have hsz:(a.eval y).cells.size=n:=by have:=r1.1;simp at this;omega
 simp[execOp,h,e3,Instr.storeAt,Instr.sureAddr,storeVar,a3_ h1,hsz,k1]
theorem Mv.row{ρ:Rho}{st:ASt}{w w':World}{cs:List Value}{C:Array Value}{t:TypeId}(ex:Bool)(es:Nat)(fr:Nat×Nat)(hw:WR ρ st.h.get w)(hf:b6_ ρ st.next (st.next+1))(hc:VRL ρ cs (C.toList.take cs.length))
  (hfr:FrOk C.size fr) (hh:w'.heap=w.heap.push (.cells C t fr)) (h1:w'.os=w.os) (h2:w'.tape=w.tape) (h3:w'.output=w.output):
  Mv ρ (upd ρ st.next (some ⟨w.heap.size,0,ex,es,C.size,false,nofz⟩)) st.h.get (st.new (.cells cs ex es)).h.get st.next (st.new (.cells cs ex es)).next w w':=by
 have hn:ρ st.next=none:=hf _ (Nat.le_refl _) (Nat.lt_succ_self _)
 have:(st.new (.cells cs ex es)).h.get=upd st.h.get st.next (some (.cells cs ex es)):=by simp[ASt.new,b0_]
 rw[this]
 refine Mv.alloc hw hn _ rfl _ (fun _ h=>h) rfl (by rw[hh];simp) (fun b hb=>by rw[hh,Array.getElem?_push,if_neg (by omega)]) ⟨rfl,rfl,rfl,C,t,fr,by rw[hh];simp,rfl,hfr,?_,fun i x hx=> ?_⟩ h1 h2 h3
 ·have:=hc.1;simp at this ⊢;omega
 ·obtain⟨y,hy,hv⟩:=hc.get hx
  rw[List.getElem?_take]at hy
  split at hy
  ·refine⟨y,?_,hv.mono (Sub.upd _ hn)⟩
   rw[Nat.zero_add];simpa using hy
  ·cases hy
theorem VRL.whole{ρ:Rho}{l:List Value}{C:Array Value}(h:VRL ρ l C.toList):VRL ρ l (C.toList.take l.length):=by
 have:C.toList.take l.length=C.toList:=by rw[h.1];exact List.take_length
 rw[this];exact h
theorem afi_{ρ:Rho}{n:Nat}{s:Spot}(h0:s.base=0):VR (upd ρ n (some s)) (.pointer (some ⟨n,0,none⟩)) (.pointer (some ⟨s.blk,0,none⟩)):=by
 have:=VR.ptr (ρ:=upd ρ n (some s)) n 0 s (a1_ _ _ _)
 rw[h0]at this
 exact this
theorem ain_{P:Program}{o:Oper}{f:AFr}{st:ASt}{t:TypeId}{z:List Value}(h:o.op= .alloc t)(hz:i6_ P t= .ok z):OpR P o f st (.val (.pointer (some ⟨st.next,0,none⟩)) (st.new (.cells z true 0))):=by
 refine⟨LoS.new _ _,fun ρ w a hf hw hfr=> ?_⟩
 obtain⟨zv,h1,h2,h3⟩:=h4_ hz
 refine⟨_,.pointer (some ⟨w.heap.size,0,none⟩),w.alloc (.cells zv.cells t),.inl (by simp[execOp,h,Instr.alloc,h3,newVar,newRow]),afi_ rfl,Mv.row (C:=zv.cells) true 0 (0,0) hw hfr (VRL.whole (by rw[h1];exact e4_ h2)) (.inl rfl) rfl rfl rfl rfl⟩
theorem aos_{P:Program}{o:Oper}{f:AFr}{st:ASt}{t:TypeId}{x:Operand}(h:o.op= .box t x)(h1:(e7_ (f.ev x)).all oneC=true):OpR P o f st (.val (.pointer (some ⟨st.next,0,none⟩)) (st.new (.cells (e7_ (f.ev x)) true 0))):=by
 refine⟨LoS.new _ _,fun ρ w a hf hw hfr=> ?_⟩
 obtain⟨r1,r2⟩:=x8_ (hf.ev x) h1
 refine⟨_,.pointer (some ⟨w.heap.size,0,none⟩),w.alloc (.cells (a.eval x).cells t),.inl (by simp[execOp,h,Instr.box,newVar,newRow]),afi_ rfl,Mv.row (C:=(a.eval x).cells) true 0 (0,0) hw hfr (VRL.whole r1) (.inl rfl) rfl rfl rfl rfl⟩
end Go.Proofs.YtachglcffimmeaaGreat.Ev
