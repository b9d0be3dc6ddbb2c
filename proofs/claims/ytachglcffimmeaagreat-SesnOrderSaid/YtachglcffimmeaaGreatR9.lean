/-
  A region that draws its order: all orders.
-/
import Derived.Test.YtachglcffimmeaaGreatR8
import Derived.Test.YtachglcffimmeaaGreatRows
import Derived.WalkKit
import Derived.Defers
import Derived.Recover
import Derived.LoopN
set_option linter.unusedVariables false
set_option linter.unusedSimpArgs false
section
namespace Go.Proofs.YtachglcffimmeaaGreat.Ev
open Go
theorem Mv.frame{ρ ρ':Rho}{i:It}{g:Mem}{w w':World}(M:Mv ρ ρ' i.hb i.ha i.s i.e w w')(hw:WR ρ g w)(hsub: ∀x o,i.hb x=some o→g x=some o):Mv ρ ρ' g (i.upd g) i.s i.e w w':=by
 have hdom: ∀x o,i.upd g x=some o→(i.dom x∧i.ha x=some o)∨(¬i.dom x∧g x=some o):=by
  intro x o h
  unfold It.upd at h
  split at h
  ·rename_i hd;exact .inl ⟨hd,h⟩
  ·rename_i hd;exact .inr ⟨hd,h⟩
 have hown: ∀b,Own i.hb ρ b→Own g ρ b:=fun b ⟨x,o,s,h1,h0,h2,h3⟩=>⟨x,o,s,hsub x o h1,h0,h2,h3⟩
 have hkeep: ∀x o s,g x=some o→ ¬i.dom x→ρ x=some s→s.void=false→ ¬Own i.hb ρ s.blk:=by
  intro x o s hx hd hs hv ⟨y,oy,sy,h1,h0,h2,hvy,h3⟩
  have:=hw.inj y x oy o sy s (hsub y oy h1) hx (.inl h0) h2 hs hvy hv h3
  subst this
  exact hd (.inl ⟨oy,h1⟩)
 have hfz1: ∀b,Frz ρ b→b<w.heap.size∧ ¬Own i.hb ρ b:=fun b hb=>⟨(hw.fz b hb).1,fun h=>(hw.fz b hb).2 (hown b h)⟩
 refine⟨M.nx,M.ext,M.new,M.size,fun b hb hno=>M.frm b hb fun h=>hno (hown b h),fun b hb=> ?_,M.os,M.tape,M.output,⟨M.wr.blk,fun x o hx=> ?_,fun a b oa ob sa sb ea eb eo ra rb va vb heq=> ?_,fun b hb=> ?_⟩,fun x o hx=> ?_,fun x o hx ho=> ?_,fun b hb=> ?_⟩
 ·obtain⟨x,o,s,h1,h0,h2,h3⟩:=hb
  rcases hdom x o h1 with⟨_,h4⟩|⟨_,h4⟩
  ·rcases M.own b ⟨x,o,s,h4,h0,h2,h3⟩with h5|h5
   ·exact .inl h5
   ·exact .inr (hown b h5)
  ·obtain⟨s',e1,_⟩:=hw.obj x o h4
   have:=M.ext x s' e1
   rw[h2]at this;cases this
   exact .inr ⟨x,o,s,h4,h0,e1,h3⟩
 ·rcases hdom x o hx with⟨_,h4⟩|⟨hd,h4⟩
  ·exact M.wr.obj x o h4
  ·obtain⟨s,e1,e2⟩:=hw.obj x o h4
   exact⟨s,M.ext x s e1,e2.kept M.ext (fun hv=>M.frm _ (hw.blk x s e1 hv) (hkeep x o s h4 hd e1 hv)) (fun b hb=>M.frm b (hfz1 b hb).1 (hfz1 b hb).2)⟩
 ·have back: ∀c oc sc,g c=some oc→ρ' c=some sc→ρ c=some sc:=by
   intro c oc sc h1 h2
   obtain⟨s',e1,_⟩:=hw.obj c oc h1
   have:=M.ext c s' e1
   rw[h2]at this;cases this
   exact e1
  have cross: ∀c d oc od sc sd,i.ha c=some oc→g d=some od→(oc.isOwn=true∨od.isOwn=true)→ ¬i.dom d→ρ' c=some sc→ρ' d=some sd→sc.void=false→sd.void=false→sc.blk=sd.blk→False:=by
   intro c d oc od sc sd h1 h2 h0 h3 h4 h5 vc vd h6
   have h7:=back d od sd h2 h5
   cases hoc:oc.isOwn with
   |true=>
    rcases M.own sc.blk ⟨c,oc,sc,h1,hoc,h4,vc,rfl⟩with h8|h8
    ·have:=hw.blk d sd h7 vd;omega
    ·rw[h6]at h8;exact hkeep d od sd h2 h3 h7 vd h8
   |false=>
    rcases M.ro c oc h1 hoc with h9|h9
    rotate_left
    ·have hod:od.isOwn=true:=by
      rcases h0 with h0|h0
      ·rw[hoc]at h0;cases h0
      ·exact h0
     have hdf:=h9 sc h4 vc
     rcases M.fzn sc.blk hdf with h8|h8|h8
     ·exact(hw.fz _ h8).2 ⟨d,od,sd,h2,hod,h7,vd,h6.symm⟩
     ·have:=hw.blk d sd h7 vd;omega
     ·rw[h6]at h8;exact hkeep d od sd h2 h3 h7 vd h8
    have h10:=back c oc sc (hsub c oc h9) h4
    have:=hw.inj c d oc od sc sd (hsub c oc h9) h2 h0 h10 h7 vc vd h6
    subst this
    exact h3 (.inl ⟨oc,h9⟩)
  rcases hdom a oa ea with⟨_,h4⟩|⟨hd,h4⟩
  ·rcases hdom b ob eb with⟨_,h5⟩|⟨hd5,h5⟩
   ·exact M.wr.inj a b oa ob sa sb h4 h5 eo ra rb va vb heq
   ·exact(cross a b oa ob sa sb h4 h5 eo hd5 ra rb va vb heq).elim
  ·rcases hdom b ob eb with⟨_,h5⟩|⟨hd5,h5⟩
   ·exact(cross b a ob oa sb sa h5 h4 eo.symm hd rb ra vb va heq.symm).elim
   ·exact hw.inj a b oa ob sa sb h4 h5 eo (back a oa sa h4 ra) (back b ob sb h5 rb) va vb heq
 ·refine⟨(M.wr.fz b hb).1,fun⟨x,o,s,e1,e0,e2,e3,e4⟩=> ?_⟩
  rcases hdom x o e1 with⟨_,h4⟩|⟨hd,h4⟩
  ·exact(M.wr.fz b hb).2 ⟨x,o,s,h4,e0,e2,e3,e4⟩
  ·obtain⟨s',r1,_⟩:=hw.obj x o h4
   have hs2:s'=s:=Option.some.inj ((M.ext x s' r1).symm.trans e2)
   subst hs2
   rcases M.fzn b hb with h8|h8|h8
   ·exact(hw.fz b h8).2 ⟨x,o,s',h4,e0,r1,e3,e4⟩
   ·have:=hw.blk x s' r1 e3;omega
   ·rw[←e4]at h8;exact hkeep x o s' h4 hd r1 e3 h8
 ·rcases hdom x o hx with⟨_,h4⟩|⟨_,h4⟩
  ·rcases M.dom x o h4 with⟨o',h5⟩|h5
   ·exact .inl ⟨o',hsub x o' h5⟩
   ·exact .inr h5
  ·exact .inl ⟨o,h4⟩
 ·rcases hdom x o hx with⟨_,h4⟩|⟨_,h4⟩
  ·rcases M.ro x o h4 ho with h5|h5
   ·exact .inl (hsub x o h5)
   ·exact .inr h5
  ·exact .inl h4
 ·rcases M.fzn b hb with h1|h1|h1
  ·exact .inl h1
  ·exact .inr (.inl h1)
  ·exact .inr (.inr (hown b h1))
theorem Mv.within{ρ ρ1 ρ2:Rho}{g g1 g2:Mem}{n N s e:Nat}{w w1 w2:World}(h:Mv ρ ρ1 g g1 n N w w1)(k:Mv ρ1 ρ2 g1 g2 s e w1 w2)(h1:n≤s)(h2:e≤N):Mv ρ ρ2 g g2 n N w w2 where
 nx:=h.nx
 ext:=h.ext.trans k.ext
 new a t e':=by
  rcases k.new a t e' with e1|e1
  ·exact h.new a t e1
  ·exact .inr ⟨by omega,by omega⟩
 size:=Nat.le_trans h.size k.size
 frm b hb ho:=by
  have h1: ¬Own g1 ρ1 b:=fun h2=>by
   rcases h.own b h2 with h3|h3
   ·omega
   ·exact ho h3
  rw[k.frm b (Nat.lt_of_lt_of_le hb h.size) h1,h.frm b hb ho]
 own b hb:=by
  rcases k.own b hb with h1|h1
  ·exact .inl (Nat.le_trans h.size h1)
  ·exact h.own b h1
 os:=k.os.trans h.os
 tape:=k.tape.trans h.tape
 output:=k.output.trans h.output
 wr:=k.wr
 dom a o e':=by
  rcases k.dom a o e' with⟨o',e1⟩|e1
  ·exact h.dom a o' e1
  ·exact .inr ⟨by omega,by omega⟩
 ro a o e' ho:=by
  rcases k.ro a o e' ho with e1|e1
  ·rcases h.ro a o e1 ho with e2|e2
   ·exact .inl e2
   ·obtain⟨s1,r1,_⟩:=h.wr.obj a o e1
    refine .inr fun s hs hv=> ?_
    have hq2:s1=s:=Option.some.inj ((k.ext a s1 r1).symm.trans hs)
    have h9:=(e2 s1 r1 (by rw[hq2];exact hv)).mono k.ext
    rw[hq2]at h9;exact h9
  ·exact .inr e1
 fzn b hb:=by
  rcases k.fzn b hb with h1|h1|h1
  ·exact h.fzn b h1
  ·exact .inr (.inl (Nat.le_trans h.size h1))
  ·exact .inr (h.own b h1)
def cntF(L:Nat→Bool):Nat→Nat
 |0=>0
 |n+1=>cntF L n+(if L n then 0 else 1)
theorem agC_{L:Nat→Bool}: ∀{n:Nat},cntF L n=0→ ∀i,i<n→L i=true:=by
 intro n
 induction n with
 |zero=>intro _ i h;omega
 |succ n ih=>
  intro h i hi
  simp only[cntF]at h
  cases hl:L n with
  |false=>rw[hl]at h;simp at h
  |true=>
   rcases Nat.lt_or_ge i n with h1|h1
   ·exact ih (by omega) i h1
   ·have:i=n:=by omega
    subst this;exact hl
theorem aiT_{L:Nat→Bool}{j:Nat}(hL:L j=false): ∀(n:Nat),cntF L n=cntF (addL L j) n+(if j<n then 1 else 0):=by
 intro n
 induction n with
 |zero=>rfl
 |succ n ih=>
  simp only[cntF]
  rw[ih]
  rcases Nat.lt_trichotomy j n with h|h|h
  ·have:addL L j n=L n:=if_neg (by omega)
   rw[this]
   simp only[h,show j<n+1 by omega,if_true]
   omega
  ·subst h
   have:addL L j j=true:=if_pos rfl
   rw[this,hL]
   simp only[Nat.lt_irrefl,if_false,Bool.false_eq_true,if_true,show j<j+1 by omega]
  ·have:addL L j n=L n:=if_neg (by omega)
   rw[this]
   simp only[show¬j<n by omega,show¬j<n+1 by omega,if_false]
   omega
theorem gK_L{it:Nat→It}{g0:Mem}{L L':Nat→Bool}: ∀{n:Nat},(∀k,k<n→L k=L' k)→gK it g0 L n=gK it g0 L' n:=by
 intro n
 induction n with
 |zero=>intro _;rfl
 |succ n ih=>
  intro h
  have h1:=ih fun k hk=>h k (by omega)
  cases hl:L n with
  |true=>rw[amt_ it g0 hl,amt_ it g0 ((h n (by omega))▸hl),h1]
  |false=>rw[acc_ it g0 hl,acc_ it g0 ((h n (by omega))▸hl),h1]
theorem apQ_{it:Nat→It}{s0:Nat→Option Value}{L L':Nat→Bool}: ∀{n:Nat},(∀k,k<n→L k=L' k)→slK it s0 L n=slK it s0 L' n:=by
 intro n
 induction n with
 |zero=>intro _;rfl
 |succ n ih=>
  intro h
  funext t
  simp only[slK]
  rw[ih fun k hk=>h k (by omega),h n (by omega)]
section
variable {P:Program} {all:List Oper} {f0 f':AFr} {st0 st':ASt} {its:Nat→It} {recs:List Rec} {Q:Exit→Act→World→Prop} {ρ0:Rho} {w0:World}
def lst(listed:Array Bool):Nat→Bool:=fun i=>listed.getD i false
structure Inv (all:List Oper) (f0:AFr) (st0 st':ASt) (its:Nat→It) (ρ0:Rho) (w0:World) (fuel:Nat) (listed:Array Bool) (a:Act) (w:World) (ρ:Rho):Prop where
 size:listed.size=all.length
 down:Down all.length (Anc all) (lst listed)
 cnt:cntF (lst listed) all.length=fuel
 asize:a.tmps.size=f0.n
 slot: ∀t v,slK its f0.tmps.get (lst listed) all.length t=some v→ ∃v',a.tmps[t]? =some v'∧VR ρ v v'
 defs:y3_ ρ f0.defers a.defers
 mv:Mv ρ0 ρ st0.h.get (gK its st0.h.get (lst listed) all.length) st0.next st'.next w0 w
 fresh: ∀i,i<all.length→lst listed i=false→b6_ ρ (its i).s (its i).e
theorem aiR_(T:Tra P all f0 st0 its all.length f' st' recs)(hsl:g3_ all=true)(hQ: ∀ρ' a' w',FrR ρ' f' a'→Mv ρ0 ρ' st0.h.get st'.h.get st0.next st'.next w0 w'→Q .normal a' w'):
  ∀(fuel:Nat) (listed:Array Bool) (a:Act) (w:World) (ρ:Rho),Inv all f0 st0 st' its ρ0 w0 fuel listed a w ρ→wpAny P .any all.toArray Q fuel listed a w:=by
 have hsp:=y7_ hsl
 have hdone: ∀(listed:Array Bool) (a:Act) (w:World) (ρ:Rho) fuel,Inv all f0 st0 st' its ρ0 w0 fuel listed a w ρ→(∀i,i<all.length→lst listed i=true)→Q .normal a w:=by
  intro listed a w ρ fuel I hL
  have hL': ∀k,k<all.length→lst listed k=allL k:=fun k hk=>hL k hk
  refine hQ ρ a w ⟨I.asize.trans T.fn.symm,fun t v hv=>I.slot t v ?_,by rw[T.defs];exact I.defs⟩ ?_
  ·rw[T.slot]at hv;rw[apQ_ hL'];exact hv
  ·have:=I.mv
   rw[gK_L hL',←T.heap]at this
   exact this
 have hready: ∀(listed:Array Bool),listed.size=all.length→Region.ready .any all.toArray listed=[]→ ∀i,i<all.length→lst listed i=true:=by
  intro listed hs hr i
  induction i using Nat.strongRecOn with
  |_ i ih=>
   intro hi
   cases hl:lst listed i with
   |true=>rfl
   |false=>
    exfalso
    have hm:i∈Region.ready .any all.toArray listed:=by
     rw[mem_ready]
     have hoi:all[i]? =some all[i]:=by simp[hi]
     refine⟨?_,all[i],by simp[hi],fun e he hb=> ?_⟩
     ·unfold lst at hl
      simp only[Array.getD_eq_getD_getElem?]at hl ⊢
      have hlt:i<listed.size:=by omega
      rw[Array.getElem?_eq_getElem hlt]at hl ⊢
      exact hl
     ·have hlt:=(hsp.1|>s8_) i _ hi hoi|>.1 e (by simpa using he) (by rw[L9_];exact hb)
      exact ih e.on hlt (by omega)
    rw[hr]at hm;cases hm
 intro fuel
 induction fuel with
 |zero=>
  intro listed a w ρ I
  have hL:=agC_ I.cnt
  refine⟨?_,hdone listed a w ρ 0 I hL⟩
  cases hr:Region.ready .any all.toArray listed with
  |nil=>rfl
  |cons i l=>
   exfalso
   have hm:i∈Region.ready .any all.toArray listed:=by rw[hr];simp
   rw[mem_ready]at hm
   obtain⟨h1,o,h2,_⟩:=hm
   have hi:i<all.length:=by have:=(Array.getElem?_eq_some_iff.1 h2).1;simpa using this
   have:=hL i hi
   unfold lst at this
   have hlt:i<listed.size:=by rw[I.size];exact hi
   simp only[Array.getD_eq_getD_getElem?,Array.getElem?_eq_getElem hlt]at h1 this
   simp at h1 this
   rw[h1]at this;cases this
 |succ fuel ih=>
  intro listed a w ρ I
  refine⟨fun hr=>hdone listed a w ρ _ I (hready listed I.size hr),fun j hj=> ?_⟩
  rw[mem_ready]at hj
  obtain⟨h1,o,h2,h3⟩:=hj
  have hjl:j<all.length:=by have:=(Array.getElem?_eq_some_iff.1 h2).1;simpa using this
  have hoj:all[j]? =some o:=by simpa using h2
  have hLj:lst listed j=false:=by
   unfold lst
   have hlt:j<listed.size:=by rw[I.size];exact hjl
   simp only[Array.getD_eq_getD_getElem?,Array.getElem?_eq_getElem hlt]at h1 ⊢
   exact h1
  have hbk:=(s8_ hsp.1 j o hjl hoj).1
  have hanc: ∀k,k<j→Anc all j k→lst listed k=true:=by
   intro k hk hA
   obtain⟨e,e1,e2,e3⟩:=acu_ hoj hA hbk
   have hl:lst listed e.on=true:=h3 e (by simpa using e1) (by rw[←L9_];exact e2)
   rcases e3 with e3|e3
   ·rw[e3];exact hl
   ·have h4:=hbk e e1 e2
    exact I.down e.on (by omega) hl k (aoR_ hsp.1 e.on (by omega) k e3) e3
  obtain⟨d1,d2,hsem⟩:=T.sem j o hjl hoj
  have hls:lst (listed.setIfInBounds j true)=addL (lst listed) j:=by
   funext i
   unfold lst addL
   by_cases hi:i=j
   ·subst hi
    have hlt:i<listed.size:=by rw[I.size];exact hjl
    simp[hlt]
   ·rw[if_neg hi,getD_set_ne false (Ne.symm hi)]
  have hat: ∀x o',(its j).hb x=some o'→gK its st0.h.get (lst listed) all.length x=some o':=fun x o' hx=>T.run.at hjl hLj I.down hanc hx all.length (Nat.le_of_lt hjl) (Nat.le_refl _)
  have hwr:WR ρ (its j).hb w:=by
   have hw:=I.mv.wr
   exact⟨hw.blk,fun x o' hx=>hw.obj x o' (hat x o' hx),fun a b oa ob sa sb ea eb eo ra rb va vb heq=>hw.inj a b oa ob sa sb (hat a oa ea) (hat b ob eb) eo ra rb va vb heq,fun b hb=>⟨(hw.fz b hb).1,fun⟨x,o',s,e1,e2⟩=>(hw.fz b hb).2 ⟨x,o',s,hat x o' e1,e2⟩⟩⟩
  have hslots: ∀t∈(its j).looks,∀v,slK its f0.tmps.get allL j t=some v→ ∃v',a.tmps[t]? =some v'∧VR ρ v v':=by
   intro t ht v hv
   refine I.slot t v ?_
   rw[T.run.slot_at hjl hLj I.down hanc ht all.length (Nat.le_of_lt hjl) (Nat.le_refl _)]
   exact hv
  have main:=hsem Q ρ w a (fun a' w'=>wpAny P .any all.toArray Q fuel (listed.setIfInBounds j true) a' w') hslots I.asize I.defs hwr (I.fresh j hjl hLj) ?_
  ·unfold Wp at main
   unfold wpOp
   rw[h2]
   simp only
   split
   ·rename_i hw';rw[if_pos hw']at main;exact .inl main
   ·rename_i hw';rw[if_neg hw']at main;exact main
  ·intro ρ' v' w' hv hM
   have hM2:=hM.frame I.mv.wr hat
   obtain⟨b1,b2⟩:=T.eN j hjl
   refine ih (listed.setIfInBounds j true) _ w' ρ' ⟨by simp[I.size],?_,?_,?_,?_,?_,?_,?_⟩
   ·rw[hls]
    intro q hq hLq i hi hA
    unfold addL at hLq ⊢
    by_cases hij:i=j
    ·rw[if_pos hij]
    ·rw[if_neg hij]
     by_cases hqj:q=j
     ·subst hqj;exact hanc i hi hA
     ·rw[if_neg hqj]at hLq
      exact I.down q hq hLq i hi hA
   ·rw[hls]
    have:=aiT_ hLj all.length
    rw[I.cnt,if_pos hjl]at this
    omega
   ·rw[←I.asize]
    cases o.dst<;>simp[Act.put]
   ·intro t v hv'
    rw[hls,T.run.slot_add hjl hLj I.down all.length (Nat.le_refl _) t]at hv'
    by_cases hd:(its j).dst=some t
    ·rw[if_pos ⟨hjl,hd⟩]at hv'
     cases hv'
     rw[d1]at hd
     obtain⟨e1,e2⟩:=v1_ hd
     refine⟨v',?_,hv⟩
     rw[e1]
     simp[Act.put,I.asize,e2]
    ·rw[if_neg (by simp[hd])]at hv'
     obtain⟨u,u1,u2⟩:=I.slot t v hv'
     refine⟨u,?_,u2.mono hM.ext⟩
     have hlt:t<f0.n:=by
      have:=(Array.getElem?_eq_some_iff.1 u1).1
      rw[I.asize]at this;exact this
     cases hod:o.dst with
     |none=>exact u1
     |some q=>
      have hqt:q≠t:=by
       intro e
       apply hd
       rw[d1,hod,e]
       have hb:Nat.blt t f0.n=true:=by simpa using hlt
       simp only[effD,hb,cond_true]
      simp only[Act.put]
      rw[Array.getElem?_setIfInBounds_ne hqt];exact u1
   ·have:(a.put o.dst v').defers=a.defers:=by cases o.dst<;>rfl
    rw[this];exact I.defs.mono hM.ext
   ·rw[hls,T.run.add hjl hLj I.down hanc all.length (Nat.le_refl _),if_pos hjl]
    exact I.mv.within hM2 b1 b2
   ·rw[hls]
    intro i hi hLi
    unfold addL at hLi
    by_cases hij:i=j
    ·rw[if_pos hij]at hLi;cases hLi
    ·rw[if_neg hij]at hLi
     have hf:=I.fresh i hi hLi
     intro x h4 h5
     cases hx:ρ' x with
     |none=>rfl
     |some s=>
      rcases hM.new x s hx with h6|h6
      ·rw[hf x h4 h5]at h6;cases h6
      ·exfalso
       rcases Nat.lt_trichotomy i j with h7|h7|h7
       ·have:=T.run.mono i j h7 hjl;omega
       ·exact hij h7
       ·have:=T.run.mono j i h7 hi;omega
theorem H4_{self:Self}(hself:w0_ P self){ops:List Oper}{f:AFr}{st:ASt}{x:AX}{id:Nat}(hm:P.follows .mixedOrders=true)(hwf: ∀x o,st.h.get x=some o→x<st.next)(hsl:g3_ ops=true)
  (h:r8_ P self ops (ops.zip (ancL ops [])) 0 [] f st= .ok (x,f',st')):
  x= .normal∧LoS st st'∧ ∀(Q:Exit→Act→World→Prop) ρ w a,FrR ρ f a→WR ρ st.h.get w→b6_ ρ st.next st'.next→(∀ρ' a' w',FrR ρ' f' a'→Mv ρ ρ' st.h.get st'.h.get st.next st'.next w w'→Q .normal a' w')→(Code.region id ops.toArray true).wp P Q a w:=by
 have hl: ∀(k:Nat) (o:Oper) (m:Nat),(ops.zip (ancL ops []))[k]? =some (o,m)→ops[0+k]? =some o∧m=d9_ ops (0+k):=by
  intro k o m hk
  rw[Nat.zero_add]
  have hz:=hk
  rw[List.getElem?_zip_eq_some]at hz
  obtain⟨h1,h2⟩:=hz
  refine⟨h1,?_⟩
  unfold d9_
  rw[List.getD_eq_getElem?_getD,h2];rfl
 have hlen:(ops.zip (ancL ops [])).length=ops.length:=by
  rw[List.length_zip,(v7_ ops []).1];simp
 obtain⟨e1,its,recs,T⟩:=agq_ hself hsl _ 0 [] f st (fun _=>⟨0,0,fun _=>none,fun _=>none,none,undef,[]⟩) x f' st' hl (Tra.start P ops f st hwf _) h
 rw[hlen,Nat.zero_add]at T
 refine⟨e1,T.los,fun Q ρ w a hf hw hfr hQ=> ?_⟩
 refine wp_region_any hm ?_
 have hM0:Mv ρ ρ st.h.get st.h.get st.next st.next w {w with drawn:=w.drawn+1}:=Mv.same hw _ rfl rfl rfl rfl
 have hfalse: ∀i,lst (Array.replicate ops.toArray.size false) i=false:=by
  intro i
  unfold lst
  simp only[Array.getD_eq_getD_getElem?,Array.getElem?_replicate]
  split<;>rfl
 have hlf:lst (Array.replicate ops.toArray.size false)=fun _=>false:=funext hfalse
 have hg0: ∀n,gK its st.h.get (fun _=>false) n=st.h.get:=by
  intro n;induction n with
  |zero=>rfl
  |succ n ih=>rw[acc_ its _ rfl,ih]
 have hs0: ∀n,slK its f.tmps.get (fun _=>false) n=f.tmps.get:=by
  intro n;induction n with
  |zero=>rfl
  |succ n ih=>funext t;simp only[slK];rw[ih];simp
 have hc0: ∀n,cntF (fun _=>false) n=n:=by
  intro n;induction n with
  |zero=>rfl
  |succ n ih=>simp only[cntF];rw[ih];simp
 refine aiR_ (ρ0:=ρ) (w0:=w) T hsl hQ ops.toArray.size _ a _ ρ ⟨by simp,?_,?_,hf.size,?_,hf.defs,?_,?_⟩
 ·rw[hlf];intro j _ h;cases h
 ·rw[hlf,hc0];simp
 ·rw[hlf,hs0];exact hf.tmp
 ·rw[hlf,hg0]
  refine⟨T.los.1,hM0.ext,fun a s e=> .inl e,hM0.size,hM0.frm,hM0.own,hM0.os,hM0.tape,hM0.output,hM0.wr,fun a o e=> .inl ⟨o,e⟩,fun _ _ e _=> .inl e,fun _ e=> .inl e⟩
 ·intro i hi _ x h1 h2
  obtain⟨b1,b2⟩:=T.eN i hi
  exact hfr x (by omega) (by omega)
end
end Go.Proofs.YtachglcffimmeaaGreat.Ev
end
section
namespace Go.Proofs.YtachglcffimmeaaGreat
open Go.RowKit
section
variable {P:Program} {Q:Exit→Act→List Frame→World→Prop} {a:Act} {cs:List Frame} {w:World}
theorem t2_{id:Nat}{o:Oper}{l:List Oper}{v:Value}{cs':List Frame}(hg:o.guard=none)(hrun:(execOp a.eval o).run P w= .ok .recover w)
  (h0:recoverD cs=some (v,cs')∨(recoverD cs=none∧v= .nilIface∧cs'=cs))
  {Q1:Exit→Act→World→Prop} (hq: ∀e a w,Q1 e a w→Q e a cs' w)
  (h:wpList P (o::l).toArray Q1 l (a.put o.dst v) w):(Code.region id (o::l).toArray false).wpS P Q a cs w:=by
 intro b k hb hr
 have h2:wpOps P (o::l).toArray Q1 (List.range' 1 l.length) (a.put o.dst v) w:=by
  rw[wpOps_eq_wpList l 1 (by intro j;simp[Nat.add_comm 1 j])]
  exact h
 obtain⟨e,a',w',q,r⟩:=wp_ops _ _ w h2 b k cs'
 have hrange:List.range (o::l).toArray.size=0::List.range' 1 l.length:=by
  rw[List.range_eq_range']
  simp[List.range'_succ]
 refine⟨e,a',cs',w',hq _ _ _ q,.of_steps (.one step_region) (.of_steps (.one (?_:step P _= .next _)) r)⟩
 rw[hrange]
 have ho:(o::l).toArray[0]? =some o:=rfl
 have hw:Region.wanted o (yielded (o::l).toArray a.tmps)=true:=by simp[Region.wanted,hg]
 have hst:=stepG_op (P:=P) (b:=b) (k:=k) (cs:=cs) (w:=w) (rest:=List.range' 1 l.length) ho hw
 have hfin: ∀u,(b.at a (.inRegion (o::l).toArray (0::List.range' 1 l.length)::k)).finish u=b.at (a.put o.dst u) (.inRegion (o::l).toArray (List.range' 1 l.length)::k):=by
  intro u;rw[Frame.finish_at,ho];rfl
 refine step_lone_go ?_
 have hk:(b.at a (.inRegion (o::l).toArray (0::List.range' 1 l.length)::k)).kind= .deferred:=hb
 have htr:=tryRecover_deferred hk cs
 rw[hst,←hfin]
 rcases h0 with hrec|⟨hrec,rfl,rfl⟩
 ·simp only[Frame.at]at htr ⊢
  simp[stepG.apply,hrun,htr,hrec]
 ·simp only[Frame.at]at htr ⊢
  simp[stepG.apply,hrun,htr,hrec]
theorem I9_{f:FuncId}{fn:Func}{id:Nat}{o:Oper}{l:List Oper}{c2:Code}{args:Array Value}{u u':FrameMode}{v:Value}{w:World}{R:Ending→World→Prop}
  (hf:P.funcs[f]? =some fn) (hb:fn.body=some (.seq (.region id (o::l).toArray false) c2)) (hg:o.guard=none) (hrun: ∀ρ,(execOp ρ o).run P w= .ok .recover w)
  (h0:(∃older,u= .panicking ({v,recovered:=false}::older)∧u'= .panicking ({v,recovered:=true}::older))∨(u= .returning∧u'= .returning∧v= .nilIface))
  (h:wpList P (o::l).toArray (Exit.then (c2.wp P (bodyPost P fn R)) (bodyPost P fn R)) l (({tmps:=args++Array.replicate (fn.ntmps-args.size) undef,defers:=[]}:Act).put o.dst v) w):
  CallsD P f args u w fun e u'' w'=>u''=u'∧R e w':=by
 refine callsD_of_wpS hf hb fun c₀ cs hu=> ?_
 apply wpS_seq
 refine t2_ (v:=v) (cs':={c₀ with mode:=u'}::cs) hg (hrun _) ?_ ?_ h
 ·rcases h0 with⟨older,rfl,rfl⟩|⟨rfl,rfl,rfl⟩
  ·left
   simp[recoverD,hu]
  ·right
   refine⟨by simp[recoverD,hu],rfl,?_⟩
   cases c₀
   simp_all
 ·intro e a' w' hq
  have key: ∀e a' w',bodyPost P fn R e a' w'→bodyPostS P fn c₀ cs (fun e u'' w'=>u''=u'∧R e w') e a' ({c₀ with mode:=u'}::cs) w':=by
   intro e a' w' hq
   cases e<;>simp only[bodyPost,bodyPostS]at hq ⊢
   case normal=>obtain⟨h1,x,h2,h3⟩:=hq;exact⟨h1,u',rfl,x,h2,rfl,h3⟩
   case ret=>obtain⟨h1,x,h2,h3⟩:=hq;exact⟨h1,u',rfl,x,h2,rfl,h3⟩
   case panic=>obtain⟨h1,h2⟩:=hq;exact⟨h1,u',rfl,rfl,h2⟩
   case outgrown=>exact⟨u',rfl,hq⟩
  cases e
  case normal=>exact wpS_of_wp (Code.wp_mono (fun e a' w'=>key e a' w') hq)
  case exit id=>exact key (.exit id) a' w' hq
  case goto id=>exact key (.goto id) a' w' hq
  case ret=>exact key .ret a' w' hq
  case panic ch=>exact key (.panic ch) a' w' hq
  case outgrown=>exact key .outgrown a' w' hq
end
end Go.Proofs.YtachglcffimmeaaGreat
end
section
namespace Go.Proofs.YtachglcffimmeaaGreat.Ev
open Go
def XR(ρ:Rho):AX→Exit→Prop
 | .normal,e=>e= .normal
 | .exit id,e=>e= .exit id
 | .ret,e=>e= .ret
 | .panic v,e=> ∃v',e= .panic [{v:=v',recovered:=false}]∧VR ρ v v'
def Goal(ρ:Rho)(st st':ASt)(f':AFr)(x:AX)(w:World)(Q:Exit→Act→World→Prop):Prop:=
 ∀ρ' e' a' w',XR ρ' x e'→FrR ρ' f' a'→Mv ρ ρ' st.h.get st'.h.get st.next st'.next w w'→Q e' a' w'
def Snd(P:Program)(c:Code)(f:AFr)(st:ASt)(x:AX)(f':AFr)(st':ASt):Prop:=
 LoS st st'∧ ∀(Q:Exit→Act→World→Prop) ρ w a,FrR ρ f a→WR ρ st.h.get w→b6_ ρ st.next st'.next→Goal ρ st st' f' x w Q→c.wp P Q a w
theorem x6_{P:Program}{self:Self}(hs:w0_ P self){f f':AFr}{st st':ASt}{o:Oper}{x:AX}(hwf:Wf st)(h:evOp P self f st o= .ok (x,f',st')):LoS st st'∧ ∀ρ w a,FrR ρ f a→WR ρ st.h.get w→b6_ ρ st.next st'.next→
  ∀(K:Act→World→Prop) (Q:Exit→Act→World→Prop),(x= .normal→ ∀ρ' a' w',FrR ρ' f' a'→Mv ρ ρ' st.h.get st'.h.get st.next st'.next w w'→K a' w')→(x≠ .normal→Goal ρ st st' f' x w Q)→o.wp P a w K Q:=by
 unfold evOp at h
 split at h
 ·rename_i v st1 ha
  cases h
  obtain⟨h1,h2⟩:=m4_ ha
  refine⟨h1,fun ρ w a hf hw hfr K Q hK _=> ?_⟩
  obtain⟨ρ',v',w',hr,hv,hm⟩:=h2 ρ w a hf hw hfr
  have:=hK rfl ρ' (a.put o.dst v') w' ((hf.mono hm.ext).put hv) hm
  unfold Oper.wp
  rcases hr with hr|⟨hr,rfl⟩
  ·rw[hr];exact this
  ·rw[hr];exact this
 ·rename_i g args ha
  have h2:=m4_ ha
  split at h
  ·rename_i v st1 hg
   cases h
   obtain⟨k1,k2⟩:=hs g args st _ _ hwf hg
   refine⟨k1,fun ρ w a hf hw hfr K Q hK _=> ?_⟩
   obtain⟨args',hr,hv⟩:=h2 ρ w a hf hw
   unfold Oper.wp
   rw[hr]
   refine(k2 ρ w args' hv hw hfr).mono fun e w' he=> ?_
   obtain⟨ρ',⟨v',rfl,hv'⟩,hm⟩:=he
   exact hK rfl ρ' _ w' ((hf.mono hm.ext).put hv') hm
  ·rename_i v st1 hg
   cases h
   obtain⟨k1,k2⟩:=hs g args st _ _ hwf hg
   refine⟨k1,fun ρ w a hf hw hfr K Q _ hQ=> ?_⟩
   obtain⟨args',hr,hv⟩:=h2 ρ w a hf hw
   unfold Oper.wp
   rw[hr]
   refine(k2 ρ w args' hv hw hfr).mono fun e w' he=> ?_
   obtain⟨ρ',⟨v',rfl,hv'⟩,hm⟩:=he
   exact hQ (by intro e;cases e) ρ' _ a w' ⟨v',rfl,hv'⟩ (hf.mono hm.ext) hm
  ·cases h
 ·rename_i d ha
  cases h
  have h2:=m4_ ha
  refine⟨LoS.refl _,fun ρ w a hf hw hfr K Q hK _=> ?_⟩
  obtain⟨d',hr,hd⟩:=h2 ρ w a hf hw
  unfold Oper.wp
  rw[hr]
  refine hK rfl ρ _ w ?_ (Mv.refl hw _)
  have:FrR ρ ({f with defers:=d::f.defers}:AFr) ({a with defers:=d'::a.defers}:Act):=⟨hf.size,hf.tmp,hd,hf.defs⟩
  exact this.put (.tuple _ _ rfl (fun i x y hx=>by simp at hx))
 ·rename_i v ha
  cases h
  have h2:=m4_ ha
  refine⟨LoS.refl _,fun ρ w a hf hw hfr K Q _ hQ=> ?_⟩
  obtain⟨v',hr,hv⟩:=h2 ρ w a hf hw
  unfold Oper.wp
  rw[hr]
  exact hQ (by intro e;cases e) ρ _ a w ⟨v',rfl,hv⟩ hf (Mv.refl hw _)
 ·cases h
theorem H1_{P:Program}{self:Self}(hs:w0_ P self)(all:List Oper): ∀(l:List Oper) (f:AFr) (st:ASt) (x:AX) (f':AFr) (st':ASt),Wf st→evOps P self all l f st= .ok (x,f',st')→
  LoS st st'∧ ∀(Q:Exit→Act→World→Prop) ρ w a,FrR ρ f a→WR ρ st.h.get w→b6_ ρ st.next st'.next→Goal ρ st st' f' x w Q→wpList P all.toArray Q l a w:=by
 intro l
 induction l with
 |nil=>
  intro f st x f' st' _ h
  cases h
  exact⟨LoS.refl _,fun Q ρ w a hf hw hfr hQ=>wpList_nil (hQ ρ _ a w rfl hf (Mv.refl hw _))⟩
 |cons o l ih=>
  intro f st x f' st' hwf h
  simp only[evOps]at h
  split at h
  ·rename_i hwa
   split at h
   ·rename_i f1 st1 he
    obtain⟨h1,h2⟩:=x6_ hs hwf he
    obtain⟨h3,h4⟩:=ih f1 st1 x f' st' (h1.wf hwf) h
    refine⟨h1.trans h3,fun Q ρ w a hf hw hfr hQ=> ?_⟩
    have hwant:=g1_ (ρ:=ρ) (a:=a) hwa (fun t _ v hv=>hf.tmp t v hv)
    unfold wpList
    rw[hwant,if_pos rfl]
    left
    refine h2 ρ w a hf hw (hfr.left h3.1) _ _ (fun _ ρ' a' w' hf' hm=> ?_) (fun hne=>absurd rfl hne)
    exact h4 Q ρ' w' a' hf' hm.wr (hm.fresh hfr) fun ρ2 e2 a2 w2 hx hf2 hm2=>hQ ρ2 e2 a2 w2 hx hf2 (hm.trans hm2)
   ·rename_i hne
    obtain⟨h1,h2⟩:=x6_ hs hwf h
    refine⟨h1,fun Q ρ w a hf hw hfr hQ=> ?_⟩
    have hwant:=g1_ (ρ:=ρ) (a:=a) hwa (fun t _ v hv=>hf.tmp t v hv)
    unfold wpList
    rw[hwant,if_pos rfl]
    left
    exact h2 ρ w a hf hw hfr _ _ (fun hx=>by subst hx;exact absurd h (hne f' st')) (fun _=>hQ)
  ·rename_i hwa
   obtain⟨h3,h4⟩:=ih _ st x f' st' hwf h
   refine⟨h3,fun Q ρ w a hf hw hfr hQ=> ?_⟩
   have hwant:=g1_ (ρ:=ρ) (a:=a) hwa (fun t _ v hv=>hf.tmp t v hv)
   unfold wpList
   rw[hwant,if_neg (by simp)]
   exact h4 Q ρ w _ (hf.put (.tuple _ _ rfl (fun i x y hx=>by simp at hx))) hw hfr hQ
  ·cases h
theorem k4_{P:Program}{self:Self}(hs:w0_ P self)(hm:P.follows .mixedOrders=true)(fuel:Nat): ∀(c:Code) (f:AFr) (st:ASt) (x:AX) (f':AFr) (st':ASt),Wf st→d3_ P self fuel c f st= .ok (x,f',st')→Snd P c f st x f' st':=by
 intro c
 induction c with
 |skip=>
  intro f st x f' st' _ h
  cases h
  exact⟨LoS.refl _,fun Q ρ w a hf hw hfr hQ=>wp_skip (hQ ρ _ a w rfl hf (Mv.refl hw _))⟩
 |region id ops draw=>
  intro f st x f' st' hwf h
  simp only[d3_,Q0_]at h
  cases draw with
  |true=>
   simp only[cond_true]at h
   obtain⟨hsl,h⟩:=ck_ h
   obtain⟨e1,e2,e3⟩:=H4_ (id:=id) hs hm hwf hsl h
   subst e1
   refine⟨e2,fun Q ρ w a hf hw hfr hQ=> ?_⟩
   have:=e3 Q ρ w a hf hw hfr (fun ρ' a' w' hf' hm'=>hQ ρ' _ a' w' rfl hf' hm')
   simpa using this
  |false=>
   simp only[cond_false]at h
   obtain⟨e1,e2⟩:=H1_ hs ops.toList ops.toList f st x f' st' hwf h
   refine⟨e1,fun Q ρ w a hf hw hfr hQ=>wp_region_list ?_⟩
   have:=e2 Q ρ w a hf hw hfr hQ
   simpa using this
 |seq c d ihc ihd=>
  intro f st x f' st' hwf h
  simp only[d3_]at h
  split at h
  ·rename_i f1 st1 he
   obtain⟨h1,h2⟩:=ihc f st _ f1 st1 hwf he
   obtain⟨h3,h4⟩:=ihd f1 st1 x f' st' (h1.wf hwf) h
   refine⟨h1.trans h3,fun Q ρ w a hf hw hfr hQ=>wp_seq ?_⟩
   refine h2 _ ρ w a hf hw (hfr.left h3.1) fun ρ' e' a' w' hx hf' hm'=> ?_
   cases hx
   exact h4 Q ρ' w' a' hf' hm'.wr (hm'.fresh hfr) fun ρ2 e2 a2 w2 hx2 hf2 hm2=>hQ ρ2 e2 a2 w2 hx2 hf2 (hm'.trans hm2)
  ·rename_i hne
   obtain⟨h1,h2⟩:=ihc f st x f' st' hwf h
   refine⟨h1,fun Q ρ w a hf hw hfr hQ=>wp_seq ?_⟩
   refine h2 _ ρ w a hf hw hfr fun ρ' e' a' w' hx hf' hm'=> ?_
   have hq:=hQ ρ' e' a' w' hx hf' hm'
   cases x with
   |normal=>exact absurd h (hne f' st')
   |exit id=>cases hx;exact hq
   |ret=>cases hx;exact hq
   |panic v=>obtain⟨v',rfl,_⟩:=hx;exact hq
 |cond b c d ihc ihd=>
  intro f st x f' st' hwf h
  simp only[d3_]at h
  split at h
  ·rename_i hb
   obtain⟨h1,h2⟩:=ihc f st x f' st' hwf h
   refine⟨h1,fun Q ρ w a hf hw hfr hQ=> ?_⟩
   have hc:=hf.ev b
   rw[hb]at hc
   have:a.eval b= .bool true:=by cases hA:a.eval b<;>(rw[hA]at hc;cases hc);rfl
   exact wp_cond_true this (h2 Q ρ w a hf hw hfr hQ)
  ·rename_i hb
   obtain⟨h1,h2⟩:=ihd f st x f' st' hwf h
   refine⟨h1,fun Q ρ w a hf hw hfr hQ=> ?_⟩
   have hc:=hf.ev b
   rw[hb]at hc
   have:a.eval b= .bool false:=by cases hA:a.eval b<;>(rw[hA]at hc;cases hc);rfl
   exact wp_cond_false this (h2 Q ρ w a hf hw hfr hQ)
  ·cases h
 |block id c ih=>
  intro f st x f' st' hwf h
  simp only[d3_]at h
  split at h
  ·rename_i i f1 st1 he
   obtain⟨h1,h2⟩:=ih f st _ f1 st1 hwf he
   cases hb:Nat.beq i id with
   |true=>
    rw[hb]at h
    cases h
    have hid:=Nat.eq_of_beq_eq_true hb
    subst hid
    refine⟨h1,fun Q ρ w a hf hw hfr hQ=>wp_block ?_⟩
    refine h2 _ ρ w a hf hw hfr fun ρ' e' a' w' hx hf' hm'=> ?_
    cases hx
    simp only[Exit.inBlock,if_true]
    exact hQ ρ' _ a' w' rfl hf' hm'
   |false=>
    rw[hb]at h
    cases h
    have hid:=Nat.ne_of_beq_eq_false hb
    refine⟨h1,fun Q ρ w a hf hw hfr hQ=>wp_block ?_⟩
    refine h2 _ ρ w a hf hw hfr fun ρ' e' a' w' hx hf' hm'=> ?_
    cases hx
    simp only[Exit.inBlock,if_neg hid]
    exact hQ ρ' _ a' w' rfl hf' hm'
  ·rename_i hne
   obtain⟨h1,h2⟩:=ih f st x f' st' hwf h
   refine⟨h1,fun Q ρ w a hf hw hfr hQ=>wp_block ?_⟩
   refine h2 _ ρ w a hf hw hfr fun ρ' e' a' w' hx hf' hm'=> ?_
   have hq:=hQ ρ' e' a' w' hx hf' hm'
   cases x with
   |normal=>cases hx;exact hq
   |exit id=>exact absurd h (hne id f' st')
   |ret=>cases hx;exact hq
   |panic v=>obtain⟨v',rfl,_⟩:=hx;exact hq
 |loop c ih=>
  intro f st x f' st' hwf h
  simp only[d3_]at h
  have key: ∀(n:Nat) (f:AFr) (st:ASt),Wf st→iter (d3_ P self fuel c) n f st= .ok (x,f',st')→
    LoS st st'∧ ∀(Q:Exit→Act→World→Prop) ρ w a,FrR ρ f a→WR ρ st.h.get w→b6_ ρ st.next st'.next→Goal ρ st st' f' x w Q→Code.rounds P c Q n a w:=by
   intro n
   induction n with
   |zero=>intro f st _ h;cases h
   |succ n ihn=>
    intro f st hwf h
    simp only[iter]at h
    split at h
    ·rename_i f1 st1 he
     obtain⟨h1,h2⟩:=ih f st _ f1 st1 hwf he
     obtain⟨h3,h4⟩:=ihn f1 st1 (h1.wf hwf) h
     refine⟨h1.trans h3,fun Q ρ w a hf hw hfr hQ=> ?_⟩
     rw[rounds_succ]
     refine h2 _ ρ w a hf hw (hfr.left h3.1) fun ρ' e' a' w' hx hf' hm'=> ?_
     cases hx
     exact h4 Q ρ' w' a' hf' hm'.wr (hm'.fresh hfr) fun ρ2 e2 a2 w2 hx2 hf2 hm2=>hQ ρ2 e2 a2 w2 hx2 hf2 (hm'.trans hm2)
    ·rename_i hne
     obtain⟨h1,h2⟩:=ih f st x f' st' hwf h
     refine⟨h1,fun Q ρ w a hf hw hfr hQ=> ?_⟩
     rw[rounds_succ]
     refine h2 _ ρ w a hf hw hfr fun ρ' e' a' w' hx hf' hm'=> ?_
     have hq:=hQ ρ' e' a' w' hx hf' hm'
     cases x with
     |normal=>exact absurd h (hne f' st')
     |exit id=>cases hx;exact hq
     |ret=>cases hx;exact hq
     |panic v=>obtain⟨v',rfl,_⟩:=hx;exact hq
  obtain⟨h1,h2⟩:=key fuel f st hwf h
  exact⟨h1,fun Q ρ w a hf hw hfr hQ=>wp_loop_rounds fuel (h2 Q ρ w a hf hw hfr hQ)⟩
 |exit id=>
  intro f st x f' st' _ h
  cases h
  exact⟨LoS.refl _,fun Q ρ w a hf hw hfr hQ=>wp_exit (hQ ρ _ a w rfl hf (Mv.refl hw _))⟩
 |ret=>
  intro f st x f' st' _ h
  cases h
  exact⟨LoS.refl _,fun Q ρ w a hf hw hfr hQ=>wp_ret (hQ ρ _ a w rfl hf (Mv.refl hw _))⟩
 |_=>intros;rename_i h;cases h
end Go.Proofs.YtachglcffimmeaaGreat.Ev
end
