/-
  Memory seen otherwise: cells as a row that may grow, a map that is empty as one that is open.
-/
import Derived.Test.YtachglcffimmeaaGreatR17
import Derived.Test.YtachglcffimmeaaGreatR16
import Derived.Test.YtachglcffimmeaaGreatRows
import Derived.WalkKit
import Derived.WalkSpells
import Derived.WalkLawsBesides
import Derived.LoopN
import Derived.Laws.BitsAllLaws
import Derived.Lib.Hide
import Derived.Lib.SlBytesConst
import Derived.ProofKit
import Derived.Carry
import Derived.OpenShut
set_option linter.unusedVariables false
set_option linter.unusedSimpArgs false
set_option maxRecDepth 1000000
set_option linter.unusedSectionVars false
section
namespace Go.Proofs.YtachglcffimmeaaGreat.Ev
open Go Go.RowKit
theorem Seen.cellsRow{β:Bs}{f f':AFr}{l:List (Option AObj)}(k es o n c t:Nat){cs:List Value}{ex:Bool}(hk:l[k]? =some (some (.cells cs ex es)))(hs:f.tmps.get t=some (.slice (some ⟨k,o,none⟩) n c))(hscal:cs.all s2_=true)(hlen:o+c*es≤cs.length)(hnc:n≤c)(h0:0<n)
  (e:Nat→Nat→Td) (he: ∀i,i<n→ ∀j,j<es→ ∃x,cs[o+i*es+j]? =some x∧e i j= .sc x)
  (hn:f'.n=f.n) (hd:f'.defers=f.defers) (h: ∀u v,f'.tmps.get u=some v→(u=t∧v= .slice (some ⟨l.length,0,some 0⟩) n c)∨f.tmps.get u=some v):
  Seen β f (mkS l) f' (mkS (l.set k none++[some (.row .mine es 0 n e)])):=by
 intro ρ a w hr
 have hkl:=(List.getElem?_eq_some_iff.1 hk).1
 have hgk:(mkS l).h.get k=some (.cells cs ex es):=by rw[b5_,hk];rfl
 obtain⟨s,e1,f0,f1,f2,C,ty,fr,f3,f4,f5,f6,f7⟩:=hr.wr.obj _ _ hgk
 have hfn:ρ l.length=none:=hr.fresh _ (Nat.le_refl _)
 obtain⟨v',v1,v2⟩:=hr.fr.tmp _ _ hs
 cases v2 with
 |slice _ _ s' _ _ c' o' hsp hn' hc hxx hro ho=>
  rw[hsp]at e1;cases e1
  have ho':o'=s.base+o:=by
   rcases ho with ho|ho
   ·exact ho
   ·omega
  have hroom:o'+c'*es≤C.size:=by
   cases hex:ex with
   |false=>
    rw[hex]at f1
    have h1:=hro f1
    rw[f2]at h1;omega
   |true=>
    rw[hex]at f1
    have h1:=hxx f1
    rw[h1,ho'];omega
  have hle:n*es≤c'*es:=Nat.mul_le_mul_right _ (by omega)
  have m:=Mv.turn (w':=w) (n:=l.length) hr.wr hfn hgk rfl hsp f0 (.row .mine es 0 n e) rfl ⟨s.blk,o',false,es,C.size,false,nofz⟩ (fun _ h=>h) (.inr ⟨rfl,rfl,fun _ _=>rfl⟩)
   ⟨rfl,(fun h=>by cases h),fun _=>⟨rfl,rfl,fun _=>⟨C,ty,fr,f3,rfl,f5,by show o'+n*es≤C.size;omega⟩⟩,(fun h=>by cases h),fun i _ hi j hj=>by
    obtain⟨x,x1,x2⟩:=he i hi j hj
    obtain⟨y,y1,y2⟩:=f7 _ x x1
    rw[List.all_eq_true]at hscal
    obtain⟨z1,z2⟩:=i9_ (hscal x (List.mem_of_getElem? x1)) y2
    refine⟨y,?_,z2,by rw[x2];exact z1⟩
    rw[d4_ f3,←y1,ho'];congr 1;show s.base+o+i*es+j=_;omega⟩ rfl rfl rfl
  have hg:(mkS (l.set k none++[some (.row .mine es 0 n e)])).h.get=upd (upd (mkS l).h.get k none) l.length (some (.row .mine es 0 n e)):=by
   funext q
   rw[b5_]
   by_cases hq:q=l.length
   ·subst hq;rw[a1_,List.getElem?_append_right (by simp)];simp
   ·rw[a2_ _ _ hq]
    rcases Nat.lt_or_ge q l.length with h1|h1
    ·rw[List.getElem?_append_left (by simpa using h1)]
     by_cases hqk:q=k
     ·subst hqk;rw[a1_,List.getElem?_set_self hkl];rfl
     ·rw[a2_ _ _ hqk,List.getElem?_set_ne (Ne.symm hqk),b5_]
    ·rw[List.getElem?_eq_none (by simp;omega)]
     rw[a2_ _ _ (by omega),b5_,List.getElem?_eq_none h1]
  have hnx:(mkS (l.set k none++[some (.row .mine es 0 n e)])).next=(mkS l).next+1:=by simp[mkS]
  have hl1:(mkS l).next=l.length:=rfl
  let st1:ASt:=⟨(mkS l).next+1,(mkS (l.set k none++[some (.row .mine es 0 n e)])).h,0⟩
  have hlo:LoS (mkS l) st1:=⟨Nat.le_succ _,Nat.zero_le _,fun x _ h2=>absurd h2 (Nat.not_lt_zero _),fun x o' e'=>by
   have e':(mkS (l.set k none++[some (.row .mine es 0 n e)])).h.get x=some o':=e'
   rw[hg]at e'
   by_cases hx:x=l.length
   ·exact .inr (by subst hx;exact⟨Nat.le_refl _,Nat.lt_succ_self _⟩)
   ·rw[a2_ _ _ hx]at e'
    by_cases hxk:x=k
    ·subst hxk;rw[a1_]at e';cases e'
    ·rw[a2_ _ _ hxk]at e';exact .inl ⟨o',e'⟩⟩
  have hR:=hr.step (f':=f') (a':=a) hlo ⟨by rw[hn];exact hr.fr.size,fun u v hu=> ?_,by rw[hd];exact hr.fr.defs.mono m.ext⟩ (by show Mv _ _ _ (mkS _).h.get _ _ _ _;rw[hg];exact m)
  ·exact⟨_,⟨hR.fr,hR.wr,fun x o' e'=>by have:=hR.wf x o' e';rw[hnx];exact this,fun x hx=>hR.fresh x (by rw[hnx]at hx;exact hx),hR.own,hR.bel,hR.size,hR.ext,hR.fzb⟩⟩
  ·rcases h u v hu with⟨rfl,rfl⟩|h1
   ·refine⟨_,v1,?_⟩
    exact VR.sliceI l.length 0 ⟨s.blk,o',false,es,C.size,false,nofz⟩ n c c' o' (a1_ _ _ _) (by omega) (fun _=>h0) (fun _=>hroom) rfl (.inl (by simp))
   ·obtain⟨v',h2,h3⟩:=hr.fr.tmp u v h1
    exact⟨v',h2,h3.mono m.ext⟩
theorem ObjR.openMap{ρ:Rho}{s:Spot}{w:World}{clock:Nat}(kk:Kk)(vk:Vk)(h:ObjR ρ (.map [] clock) s w):ObjR ρ (.omap kk vk []) s w:=by
 obtain⟨h0,E,h1,h2,_⟩:=h
 have hE:E= #[]:=Array.eq_empty_of_size_eq_zero (by simpa using h2)
 subst hE
 exact⟨h0,rfl, #[],clock,h1,rfl⟩
def D8_:Nat→List Value→List (Nat×Value)
 |_,[]=>[]
 |i,v::l=>(i,v)::D8_ (i+1) l
theorem w3_: ∀(l:List Value) (k t:Nat) (v:Value),(t,v)∈D8_ k l→k≤t∧l[t-k]? =some v
 |[],_,_,_,h=>by cases h
 |x::l,k,t,v,h=>by
  unfold D8_ at h
  rcases List.mem_cons.1 h with h|h
  ·cases h;exact⟨Nat.le_refl _,by rw[Nat.sub_self];rfl⟩
  ·obtain⟨h1,h2⟩:=w3_ l (k+1) t v h
   refine⟨by omega,?_⟩
   rw[show t-k=(t-(k+1))+1 by omega]
   exact h2
def f2_(cs:List Value):AFr:=mkF cs.length (D8_ 0 cs)
theorem PostE.seen{β:Bs}{K1 K:AE→ASt→Prop}{e:Ending}{w':World}(h:PostE β K1 e w')(hB:β.B≤w'.heap.size)
  (hs: ∀r st,K1 r st→ ∃cs f' st2 cs2,r= .returned (.agg ⟨cs⟩)∧Seen β (f2_ cs) st f' st2∧cs2.length=cs.length∧(∀(i:Nat) v,cs2[i]? =some v→f'.tmps.get i=some v)∧K (.returned (.agg ⟨cs2⟩)) st2):PostE β K e w':=by
 obtain⟨⟨r,st',ρ',h1,hK,hw,hwf,hfr,how,hfz,hext⟩,hb⟩:=h
 obtain⟨cs,f',st2,cs2,rfl,hsn,hlen,hget,hK2⟩:=hs r st' hK
 obtain⟨v',rfl,h1⟩:=h1
 cases h1 with
 |agg _ a' ha hv=>
  have hfrm:FrR ρ' (f2_ cs) ⟨a',[]⟩:=by
   refine⟨by show a'.size=cs.length;rw[←ha];rfl,fun t v ht=> ?_,trivial⟩
   rcases mkFT_get _ _ _ _ ht with h2|h2
   ·obtain⟨_,h3⟩:=w3_ _ _ _ _ h2
    rw[Nat.sub_zero]at h3
    have hlt:=(List.getElem?_eq_some_iff.1 h3).1
    have hlt2:t<a'.size:=by rw[←ha];exact hlt
    exact⟨a'[t],Array.getElem?_eq_getElem hlt2,hv t v _ (by simpa using h3) (Array.getElem?_eq_getElem hlt2)⟩
   ·cases h2
  obtain⟨ρ1,hR1⟩:=hsn ρ' _ w' ⟨hfrm,hw,hwf,hfr,how,hb,hB,hext,hfz⟩
  have hE:EndR ρ1 (.returned (.agg ⟨cs2⟩)) (.returned (.agg a')):=by
   refine⟨_,rfl,.agg _ _ ?_ fun i x y hx hy=> ?_⟩
   ·rw[←ha];show cs2.length=cs.length;exact hlen
   ·obtain⟨y',e1,e2⟩:=hR1.fr.tmp i x (hget i x (by simpa using hx))
    have e1:a'[i]? =some y':=e1
    rw[hy]at e1;cases e1;exact e2
  exact⟨⟨_,st2,ρ1,hE,hK2,hR1.wr,hR1.wf,hR1.fresh,hR1.own,hR1.fzb,hR1.ext⟩,hb⟩
def outS:WayW:=fun E K=>outR fun r st=> ∃cs f' st2 cs2,r= .returned (.agg ⟨cs⟩)∧(∀β:Bs,β.X.length=E→Seen β (f2_ cs) st f' st2)∧cs2.length=cs.length∧(∀(i:Nat) v,cs2[i]? =some v→f'.tmps.get i=some v)∧K (.returned (.agg ⟨cs2⟩)) st2
theorem aoc_:Z2_ outS:=fun E β K e w' hE hB h=>(h.objs).seen hB fun r st hk=>by
 obtain⟨cs,f',st2,cs2,h1,h2,h3⟩:=hk
 exact⟨cs,f',st2,cs2,h1,h2 β hE,h3⟩
theorem Seen.nilSlotR{β:Bs}{f f':AFr}{st:ASt}(t y:Nat)(hs:f.tmps.get t=some (.slice none 0 0))(hn:f'.n=f.n)(hd:f'.defers=f.defers)(h: ∀u v,f'.tmps.get u=some v→(u=t∧v=z1_ y)∨f.tmps.get u=some v):Seen β f st f' st:=by
 intro ρ a w hr
 refine⟨ρ,⟨⟨by rw[hn];exact hr.fr.size,fun u v hu=> ?_,by rw[hd];exact hr.fr.defs⟩,hr.wr,hr.wf,hr.fresh,hr.own,hr.bel,hr.size,hr.ext,hr.fzb⟩⟩
 rcases h u v hu with⟨rfl,rfl⟩|h1
 ·obtain⟨v',e1,e2⟩:=hr.fr.tmp _ _ hs
  cases e2
  exact⟨_,e1,.sliceN _ _⟩
 ·exact hr.fr.tmp u v h1
theorem acF_{cs:List Value}{u:Nat}{v:Value}(h:(f2_ cs).tmps.get u=some v):cs[u]? =some v:=by
 rcases mkFT_get _ _ _ _ h with h2|h2
 ·obtain⟨_,h3⟩:=w3_ _ _ _ _ h2
  rwa [Nat.sub_zero]at h3
 ·cases h2
theorem K7_: ∀(l:List Value) (k:Nat) (t:Tr Value) (i:Nat),(mkFT (D8_ k l) t).get i=if k≤i∧i<k+l.length then l[i-k]? else t.get i
 |[],k,t,i=>by
  show t.get i=_
  rw[if_neg (by simp<;>omega)]
 |x::l,k,t,i=>by
  show(mkFT (D8_ (k+1) l) (t.set k (some x))).get i=_
  rw[K7_ l (k+1) _ i]
  by_cases h1:k+1≤i∧i<k+1+l.length
  ·rw[if_pos h1,if_pos (by simp;omega),show i-k=(i-(k+1))+1 by omega];rfl
  ·rw[if_neg h1,b0_]
   by_cases h2:i=k
   ·subst h2
    rw[if_pos (by simp),Nat.sub_self]
    simp[upd]
   ·rw[if_neg (by simp;omega)]
    simp[upd,h2]
theorem J6_{cs:List Value}{i:Nat}{v:Value}(h:cs[i]? =some v):(f2_ cs).tmps.get i=some v:=by
 have hl:=(List.getElem?_eq_some_iff.1 h).1
 show(mkFT (D8_ 0 cs) .leaf).get i=_
 rw[K7_,if_pos (by omega),Nat.sub_zero]
 exact h
theorem l1_{cs:List Value}{t:Nat}{x:Value}{u:Nat}{v:Value}(h:(f2_ (cs.set t x)).tmps.get u=some v):(u=t∧v=x)∨(f2_ cs).tmps.get u=some v:=by
 have h:=acF_ h
 rw[List.getElem?_set]at h
 by_cases hut:t=u
 ·rw[if_pos hut]at h
  split at h
  ·cases h;exact .inl ⟨hut.symm,rfl⟩
  ·cases h
 ·rw[if_neg hut]at h
  exact .inr (J6_ h)
end Go.Proofs.YtachglcffimmeaaGreat.Ev
end
section
namespace Go.Proofs.YtachglcffimmeaaGreat.Ev
open Go
theorem follows: Tryz.prog.follows .mixedOrders=true:=by kernel_rfl
def begunSpec:List Value→Option Value
 |[]=>some (.bool true)
 |_=>none
def akT_:Told:=noTold.also 6 begunSpec
theorem abr_:a8_ Tryz.prog akT_:=by
 refine Told.also_ok (o8_ _) ?_
 intro args v hv
 unfold begunSpec at hv
 split at hv
 ·cases hv
  refine⟨rfl,rfl,fun w args' ha=> ?_⟩
  have:args'= #[]:=by
   have:=ha.1
   simp at this
   exact Array.eq_empty_of_size_eq_zero this.symm
  subst this
  exact(aaN_ follows (by kernel_rfl) w).mono fun e w' ⟨h1,h2⟩=>⟨⟨fun _=>none,_,h1,.bool true⟩,h2⟩
 ·cases hv
end Go.Proofs.YtachglcffimmeaaGreat.Ev
end
section
namespace Go.Proofs.YtachglcffimmeaaGreat.Ev
open Go Go.Proofs Go.RowKit
class EncM (α:Type) [Enc α]:Prop where
 cong: ∀(c c':Nat→Td),(∀j,j<Enc.es α→c j=c' j)→(Enc.dec c:α)=Enc.dec c'∧Enc.ok α c=Enc.ok α c'
 mt: ∀(a b:α),Enc.dec (fun j=>mrgT true (Enc.enc a j) (Enc.enc b j))=a∧Enc.ok α (fun j=>mrgT true (Enc.enc a j) (Enc.enc b j))=Enc.ok α (Enc.enc a)
 mf: ∀(a b:α),Enc.dec (fun j=>mrgT false (Enc.enc a j) (Enc.enc b j))=b∧Enc.ok α (fun j=>mrgT false (Enc.enc a j) (Enc.enc b j))=Enc.ok α (Enc.enc b)
section
variable {α:Type} [Enc α] [EncM α]
theorem afG_(h0:Enc.es α≠0)(b:Bool)(l m:List α)(c d:Nat):mrgT b (.fr (Enc.es α) l.length c (encL l)) (.fr (Enc.es α) m.length d (encL m))= .fr (Enc.es α) (cond b l.length m.length) (cond b c d) fun i j=>mrgT b (encL l i j) (encL m i j):=by
 have hs:g0_ (Enc.es α) l.length (Enc.es α) m.length=true:=by simp[g0_,Nat.beq_refl]
 simp only[mrgT,hs,cond_true,b8_ h0,cond_false]
theorem x7_{n:Nat}{e e':Nat→Nat→Td}(h: ∀i,i<n→(Enc.dec (e i):α)=Enc.dec (e' i)):(decL n e:List α)=decL n e':=by
 unfold decL
 exact List.map_congr_left fun i hi=>h i (List.mem_range.1 hi)
theorem F5_{n:Nat}{e e':Nat→Nat→Td}(h: ∀i,i<n→Enc.ok α (e i)=Enc.ok α (e' i)):okL α n e=okL α n e':=by
 unfold okL
 rw[Bool.eq_iff_iff,List.all_eq_true,List.all_eq_true]
 exact⟨fun k i hi=>by rw[←h i (List.mem_range.1 hi)];exact k i hi,fun k i hi=>by rw[h i (List.mem_range.1 hi)];exact k i hi⟩
theorem aoy_(h0:Enc.es α≠0)(l m:List α)(c d:Nat):a4_ α (mrgT true (.fr (Enc.es α) l.length c (encL l)) (.fr (Enc.es α) m.length d (encL m)))=l∧nilT (mrgT true (.fr (Enc.es α) l.length c (encL l)) (.fr (Enc.es α) m.length d (encL m)))=c∧okT α (mrgT true (.fr (Enc.es α) l.length c (encL l)) (.fr (Enc.es α) m.length d (encL m)))=okT α (.fr (Enc.es α) l.length c (encL l)):=by
 rw[afG_ h0]
 refine⟨?_,rfl,?_⟩
 ·show decL l.length _=l
  rw[x7_ (e':=encL l) fun i hi=>by show Enc.dec (fun j=>mrgT true (Enc.enc (l.getD i Enc.dflt) j) (Enc.enc (m.getD i Enc.dflt) j))=Enc.dec (Enc.enc (l.getD i Enc.dflt));rw[(EncM.mt _ _).1,Enc.back]]
  exact b4_ l
 ·simp only[okT,cond_true]
  rw[F5_ (e:=fun i j=>mrgT true (encL l i j) (encL m i j)) (e':=encL l) fun i hi=>(EncM.mt (l.getD i Enc.dflt) (m.getD i Enc.dflt)).2]
theorem aoz_(h0:Enc.es α≠0)(l m:List α)(c d:Nat):a4_ α (mrgT false (.fr (Enc.es α) l.length c (encL l)) (.fr (Enc.es α) m.length d (encL m)))=m∧nilT (mrgT false (.fr (Enc.es α) l.length c (encL l)) (.fr (Enc.es α) m.length d (encL m)))=d∧okT α (mrgT false (.fr (Enc.es α) l.length c (encL l)) (.fr (Enc.es α) m.length d (encL m)))=okT α (.fr (Enc.es α) m.length d (encL m)):=by
 rw[afG_ h0]
 refine⟨?_,rfl,?_⟩
 ·show decL m.length _=m
  rw[x7_ (e':=encL m) fun i hi=>by show Enc.dec (fun j=>mrgT false (Enc.enc (l.getD i Enc.dflt) j) (Enc.enc (m.getD i Enc.dflt) j))=Enc.dec (Enc.enc (m.getD i Enc.dflt));rw[(EncM.mf _ _).1,Enc.back]]
  exact b4_ m
 ·simp only[okT,cond_false]
  rw[F5_ (e:=fun i j=>mrgT false (encL l i j) (encL m i j)) (e':=encL m) fun i hi=>(EncM.mf (l.getD i Enc.dflt) (m.getD i Enc.dflt)).2]
end
end Go.Proofs.YtachglcffimmeaaGreat.Ev
end
section
namespace Go.Proofs.YtachglcffimmeaaGreat
open Go.RowKit
theorem aeP_{k:IntKind}{a b:Int}(h:a=b):Ending.returned (.int k a)= .returned (.int k b):=by rw[h]
def w2_(w:World)(k:Nat)(v:Value)(n:Nat)(cs:List Value):Prop:=
 ∃a cap,v= .slice a n cap∧cs.length=n*k∧n≤cap∧cap≤maxLen∧(a=none→cap=0)∧
  (cs≠[]→ ∃b off,a=some ⟨b,off,none⟩∧b<w.heap.size∧ ∀j,j<cs.length→w.cell? ⟨b,off+j,none⟩=cs[j]?)
theorem w2_.kept{B:Nat}{w w':World}{k n:Nat}{v:Value}{cs:List Value}(h:w2_ w k v n cs)(hb:Below B w w')(hB:w.heap.size≤B):w2_ w' k v n cs:=by
 obtain⟨a,cap,rfl,h1,h2,h3,h4,hc⟩:=h
 refine⟨a,cap,rfl,h1,h2,h3,h4,fun hne=> ?_⟩
 obtain⟨b,off,ha,hbl,hcell⟩:=hc hne
 exact⟨b,off,ha,Nat.lt_of_lt_of_le hbl hb.size,fun i hi=>(hb.cell (p:=⟨b,off+i,none⟩) (show b<B by omega)).trans (hcell i hi)⟩
theorem w2_.nil(w:World)(k:Nat):w2_ w k (.slice none 0 0) 0 []:=⟨none,0,rfl,by simp,Nat.le_refl _,by simp[maxLen],fun _=>rfl,fun h=>absurd rfl h⟩
theorem w2_.made(w:World)(C:Array Value)(t:TypeId)(fr:Nat×Nat)(k n c:Nat)(hn:C.size=n*k)(hc:n≤c)(hm:c≤maxLen):
  w2_ (w.alloc (.cells C t fr)) k (.slice (some ⟨w.heap.size,0,none⟩) n c) n C.toList:=by
 refine⟨_,c,rfl,by simpa using hn,hc,hm,fun h=>by simp at h,fun _=>⟨_,_,rfl,by simp,fun i hi=> ?_⟩⟩
 rw[World.cell?_alloc_mark]
 simp
theorem w2_.own{w:World}{base e k:Nat}{v:Value}{n:Nat}{xs:List Value}(h:w.ownsRow base e k v n xs):w2_ w k v n xs:=by
 obtain⟨hl,h⟩:=h
 rcases h with⟨rfl,rfl⟩|⟨g,cap,cur,rfl,hb,hg,hn,hm,hs,ht⟩
 ·have:xs=[]:=List.eq_nil_of_length_eq_zero (by simpa using hl)
  subst this
  exact w2_.nil w k
 ·refine⟨_,cap,rfl,hl,hn,hm,fun h=>by simp at h,fun _=>⟨g,0,rfl,(Array.getElem?_eq_some_iff.1 hg).1,fun j hj=> ?_⟩⟩
  rw[Nat.zero_add,cell_of_row w g j cur e (0,0) hg,←ht,List.getElem?_take,if_pos (by omega)]
  simp
def v3_(bs:List Nat):List Value:=bs.map fun n=> .int .u8 (n:Nat)
def Bytes(w:World)(v:Value)(bs:List Nat):Prop:=w2_ w 1 v bs.length (v3_ bs)∧ ∀i,i<bs.length→bs.getD i 0<256
theorem adl_(bs:List Nat)(i:Nat)(h:i<bs.length):(v3_ bs)[i]? =some (.int .u8 (bs.getD i 0:Nat)):=by
 simp[v3_,List.getD,List.getElem?_eq_getElem h]
theorem Bytes.parts{w:World}{v:Value}{bs:List Nat}(h:Bytes w v bs): ∃a cap,v= .slice a bs.length cap∧bs.length≤maxLen∧(∀i,i<bs.length→bs.getD i 0<256)∧
  (bs≠[]→ ∃b off,a=some ⟨b,off,none⟩∧b<w.heap.size∧ ∀i,i<bs.length→w.cell? ⟨b,off+i,none⟩=some (.int .u8 (bs.getD i 0:Nat))):=by
 obtain⟨⟨a,cap,rfl,hl,hc,hm,_,hcell⟩,hb⟩:=h
 refine⟨a,cap,rfl,Nat.le_trans hc hm,hb,fun hne=> ?_⟩
 obtain⟨b,off,ha,hbl,hcl⟩:=hcell (by cases bs with|nil=>exact absurd rfl hne|cons _ _=>simp[v3_])
 exact⟨b,off,ha,hbl,fun i hi=>(hcl i (by simpa [v3_]using hi)).trans (adl_ bs i hi)⟩
def Z5_(w:World)(v:Value)(bs:List Nat):Prop:= ∃a cap,v= .slice a bs.length cap∧bs.length≤maxLen∧(∀i,i<bs.length→bs.getD i 0<256)∧
  (bs≠[]→ ∃b off,a=some ⟨b,off,none⟩∧b<w.heap.size∧ ∀i,i<bs.length→w.cell? ⟨b,off+i,none⟩=some (.int .u8 (bs.getD i 0:Nat)))
theorem Bytes.kept{B:Nat}{w w':World}{v:Value}{bs:List Nat}(h:Bytes w v bs)(hb:Below B w w')(hB:w.heap.size≤B):Bytes w' v bs:=⟨h.1.kept hb hB,h.2⟩
theorem Bytes.nil(w:World):Bytes w (.slice none 0 0) []:=⟨w2_.nil w 1,by simp⟩
theorem Bytes.made(w:World)(C:Array Value)(t:TypeId)(fr:Nat×Nat)(n c:Nat)(bs:List Nat)(hC:C.toList=v3_ bs)(hn:n=bs.length)(hc:n≤c)(hm:c≤maxLen)(hb: ∀i,i<bs.length→bs.getD i 0<256):
  Bytes (w.alloc (.cells C t fr)) (.slice (some ⟨w.heap.size,0,none⟩) n c) bs:=by
 subst hn
 have hs:C.size=bs.length*1:=by rw[←Array.length_toList,hC];simp[v3_]
 have:=w2_.made w C t fr 1 bs.length c hs hc hm
 rw[hC]at this
 exact⟨this,hb⟩
theorem Bytes.own{w:World}{base e:Nat}{v:Value}{n:Nat}{bs:List Nat}(h:w.ownsRow base e 1 v n (v3_ bs))(hb: ∀i,i<bs.length→bs.getD i 0<256):Bytes w v bs:=by
 have hn:n=bs.length:=by have:=h.1;simp[v3_]at this;omega
 subst hn
 exact⟨w2_.own h,hb⟩
def tabA:Array Value:= #[.int .u32 0,.int .u32 498536548,.int .u32 997073096,.int .u32 651767980,.int .u32 1994146192,.int .u32 1802195444,.int .u32 1303535960,.int .u32 1342533948,.int .u32 3988292384,.int .u32 4027552580,.int .u32 3604390888,.int .u32 3412177804,.int .u32 2607071920,.int .u32 2262029012,.int .u32 2685067896,.int .u32 3183342108]
section
attribute [local go_sem] u32_xor u32_and
set_option maxHeartbeats 40000000 in
set_option maxRecDepth 100000 in
theorem aem_(w:World):
  Calls Tryz.prog 91 #[] w fun e w'=>e= .returned (.agg tabA)∧w'=w.alloc (.cells tabA 147):=by
 go_enter Tryz.func91, Tryz.ntmps91
 go_wp2
 refine wp_loop_rounds 17 ?_
 iterate 16 (rw[rounds_succ];go_wp2;refine wp_loop_rounds 5 ?_;iterate 5 (rw[rounds_succ];go_wp2))
 rw[rounds_succ]
 go_wp2
 exact bodyPost_ret (v:= .agg tabA) (by simp[results, Tryz.results91,go_sem,tabA]) rfl ⟨rfl,rfl⟩
end
end Go.Proofs.YtachglcffimmeaaGreat
end
section
namespace Go.Proofs.YtachglcffimmeaaGreat
open Go.RowKit
def tabL:List Nat:=[0,498536548,997073096,651767980,1994146192,1802195444,1303535960,1342533948,3988292384,4027552580,3604390888,3412177804,2607071920,2262029012,2685067896,3183342108]
def tab(i:Nat):Nat:=tabL.getD i 0
def nib(c:Nat):Nat:=(c/16)^^^tab (c%16)
def f8_(c x:Nat):Nat:=nib (nib (c^^^x))
def agy_(bs:List Nat):Nat:=bs.foldl f8_ 4294967295
def crcSum(bs:List Nat):Nat:=4294967295^^^agy_ bs
theorem ajG_(i:Nat):tab i<4294967296:=by
 unfold tab
 by_cases h:i<16
 ·have: ∀i:Fin 16,tabL.getD i.val 0<4294967296:=by decide
  exact this ⟨i,h⟩
 ·simp[List.getD,List.getElem?_eq_none (l:=tabL) (i:=i) (by simp[tabL];omega)]
theorem akV_(i:Nat)(h:i<16):tabA[i]? =some (.int .u32 (tab i:Nat)):=by
 have key:tabA.toList=tabL.map (fun n=>Value.int .u32 (n:Nat)):=rfl
 rw[←Array.getElem?_toList,key,List.getElem?_map]
 unfold tab
 have:i<tabL.length:=by simpa [tabL]using h
 simp[List.getD,List.getElem?_eq_getElem this]
theorem afx_(c:Nat)(h:c<4294967296):nib c<4294967296:=by
 unfold nib
 exact Nat.xor_lt_two_pow (n:=32) (by omega) (by have:=ajG_ (c%16);omega)
theorem abe_(c x:Nat)(h:c<4294967296)(hx:x<256):c^^^x<4294967296:=Nat.xor_lt_two_pow (n:=32) h (by omega)
theorem aaT_(c x:Nat)(h:c<4294967296)(hx:x<256):f8_ c x<4294967296:=afx_ _ (afx_ _ (abe_ _ _ h hx))
theorem aoQ_(n:Int)(h:0≤n)(h':n<4294967296):bits .and .u32 n 15=n%16:=by
 obtain⟨A,rfl⟩:=Int.eq_ofNat_of_zero_le h
 have h2:=Nat.and_two_pow_sub_one_eq_mod A 4
 simp at h2
 have h3:=u32_and_nat A 15 (by omega) (by omega)
 rw[h2]at h3
 simpa using h3
theorem P6_(bs:List Nat)(hb: ∀i,i<bs.length→bs.getD i 0<256)(k:Nat)(hk:k≤bs.length):(bs.take k).foldl f8_ 4294967295<4294967296:=by
 induction k with
 |zero=>simp
 |succ k ih=>
  have hlt:k<bs.length:=by omega
  have h:=hb k hlt
  rw[List.take_succ_eq_append_getElem hlt,List.foldl_append]
  simp only[List.getD,List.getElem?_eq_getElem hlt,Option.getD_some]at h
  exact aaT_ _ _ (ih (by omega)) h
theorem agx_(bs:List Nat)(hb: ∀i,i<bs.length→bs.getD i 0<256):agy_ bs<4294967296:=by
 have:=P6_ bs hb bs.length (Nat.le_refl _)
 rwa [List.take_length]at this
theorem agw_(bs:List Nat)(hb: ∀i,i<bs.length→bs.getD i 0<256):crcSum bs<4294967296:=
 Nat.xor_lt_two_pow (n:=32) (by decide) (agx_ bs hb)
theorem X9_(bs:List Nat)(k:Nat)(hlt:k<bs.length):(bs.take (k+1)).foldl f8_ 4294967295=f8_ ((bs.take k).foldl f8_ 4294967295) (bs.getD k 0):=by
 rw[List.take_succ_eq_append_getElem hlt,List.foldl_append]
 simp[List.getD,List.getElem?_eq_getElem hlt]
theorem abP_(c:Nat)(h:c<4294967296):bits .xor .u32 ((c:Int)/16) (tab (c%16):Nat)=(nib c:Nat):=by
 have h1:((c:Int)/16)=((c/16:Nat):Int):=by simp
 rw[h1,u32_xor_nat _ _ (by omega) (ajG_ _)]
 rfl
theorem abO_(c:Nat)(h:c<4294967296):bits .xor .u32 IntKind.u32.max (c:Int)=((4294967295^^^c:Nat):Int):=
 u32_xor_nat 4294967295 c (by decide) h
set_option maxHeartbeats 400000 in
theorem acE_(v:Value)(bs:List Nat)(w:World)(hv:Z5_ w v bs):
  Calls Tryz.prog 71 #[v] w fun e w'=>e= .returned (.int .u32 (crcSum bs:Nat))∧w'=(w.alloc (.cells tabA 147)).alloc (.cells tabA 147):=by
 obtain⟨a,cap,rfl,hm,hb,hc⟩:=hv
 unfold maxLen at hm
 go_enter Tryz.func71, Tryz.ntmps71
 go_wp2_with (go_at_call 91;refine(aem_ _).mono ?_;rintro e w' ⟨rfl,rfl⟩;unfold tabA)
 have hW: ∃W,W=(w.alloc (.cells tabA 147)).alloc (.cells tabA 147):=⟨_,rfl⟩
 obtain⟨W,hW⟩:=hW
 have h1: ∀i,i<16→W.cell? ⟨w.heap.size+1,i,none⟩=some (.int .u32 (tab i:Nat)):=by
  intro i hi
  rw[hW]
  have:=World.cell?_alloc_new (w.alloc (.cells tabA 147)) tabA 147 i
  simp only[World.size_alloc]at this
  exact this.trans (akV_ i hi)
 have h2: ∀b o,b<w.heap.size→W.cell? ⟨b,o,none⟩=w.cell? ⟨b,o,none⟩:=by
  intro b o hlt
  rw[hW,World.cell?_alloc_lt _ _ _ (by simp;omega),World.cell?_alloc_lt _ _ _ (by simpa using hlt)]
 unfold tabA at hW
 rw[←hW]
 have HW:=Lib.hid hW;clear hW
 go_loop [4,10] (fun c i=> ∃k:Nat,k≤bs.length∧i= .int .i64 k∧c= .int .u32 ((bs.take k).foldl f8_ 4294967295:Nat)) (fun _ i=>bs.length-(intOf i).toNat)
 case atStart=>exact⟨0,Nat.zero_le _,rfl,rfl⟩
 case round=>
  obtain⟨k,hk,rfl,rfl⟩:=hrel
  by_cases hlt:k<bs.length
  ·have hC:=P6_ bs hb k hk
   have hX:=hb k hlt
   obtain⟨b,off,rfl,hbl,hcell⟩:=hc (by intro h;simp[h]at hlt)
   have hx:=(h2 b (off+k) hbl).trans (hcell k hlt)
   have HS:=Lib.hid (X9_ bs k hlt)
   clear hcell
   revert HS hC hX hx
   generalize(bs.take k).foldl f8_ 4294967295=C
   generalize bs.getD k 0=x
   intro hC hX hx HS
   clear hb hc h2
   have q1:=abe_ C x hC hX
   have q2:=afx_ _ q1
   have e1:=u32_xor_nat C x hC (by omega)
   have e2:=aoQ_ (C^^^x:Nat) (by omega) (by omega)
   have e3:=abP_ _ q1
   have e4:=aoQ_ (nib (C^^^x):Nat) (by omega) (by omega)
   have e5:=abP_ _ q2
   have c1:=h1 ((C^^^x)%16) (by omega)
   have c2:=h1 (nib (C^^^x)%16) (by omega)
   clear h1
   go_wp2
   refine wp_loop_rounds 3 ?_
   iterate 3 (rw[rounds_succ];go_wp2)
   exact⟨⟨k+1,by omega,by go_num,by rw[HS.out];rfl⟩,by simp[intOf];omega⟩
  ·have e1:=abO_ _ (P6_ bs hb k hk)
   have hk2:k=bs.length:=by omega
   have HK:=Lib.hid hk2
   clear hb hc h2 h1 hk2
   go_wp2
   go_ret
   exact⟨aeP_ (by simp only[HK.out,List.take_length];rfl),HW.out⟩
theorem ahD_(v:Value)(bs:List Nat)(w:World)(hv:Z5_ w v bs):
  Calls Tryz.prog 71 #[v] w fun e w'=>e= .returned (.int .u32 (crcSum bs:Nat))∧Below w.heap.size w w':=
 (acE_ v bs w hv).mono fun _ _ ⟨he,hw⟩=>⟨he,by subst hw;exact((Below.refl _ _).alloc (Nat.le_refl _) _).alloc (by simp) _⟩
def bitStep(c:Nat):Nat:=if c%2=1 then(c/2)^^^3988292384 else c/2
def bitN:Nat→Nat→Nat
 |0,c=>c
 |n+1,c=>bitStep (bitN n c)
theorem j5_(n c:Nat):bitN (n+1) c=bitStep (bitN n c):=rfl
def c3_(c x:Nat):Nat:=bitN 8 (c^^^x)
def refSum(bs:List Nat):Nat:=4294967295^^^bs.foldl c3_ 4294967295
theorem adr_(c:Nat)(h:c<4294967296):bitStep c<4294967296:=by
 unfold bitStep
 split
 ·exact Nat.xor_lt_two_pow (n:=32) (by omega) (by decide)
 ·omega
theorem agI_(n c:Nat)(h:c<4294967296):bitN n c<4294967296:=by
 induction n with
 |zero=>exact h
 |succ n ih=>exact adr_ _ ih
theorem acM_(c x:Nat)(h:c<4294967296)(hx:x<256):c3_ c x<4294967296:=agI_ _ _ (abe_ _ _ h hx)
theorem w6_(bs:List Nat)(hb: ∀i,i<bs.length→bs.getD i 0<256)(k:Nat)(hk:k≤bs.length):(bs.take k).foldl c3_ 4294967295<4294967296:=by
 induction k with
 |zero=>simp
 |succ k ih=>
  have hlt:k<bs.length:=by omega
  have h:=hb k hlt
  rw[List.take_succ_eq_append_getElem hlt,List.foldl_append]
  simp only[List.getD,List.getElem?_eq_getElem hlt,Option.getD_some]at h
  exact acM_ _ _ (ih (by omega)) h
theorem T9_(bs:List Nat)(k:Nat)(hlt:k<bs.length):(bs.take (k+1)).foldl c3_ 4294967295=c3_ ((bs.take k).foldl c3_ 4294967295) (bs.getD k 0):=by
 rw[List.take_succ_eq_append_getElem hlt,List.foldl_append]
 simp[List.getD,List.getElem?_eq_getElem hlt]
theorem amN_(c:Nat)(h:c<4294967296)(ho:c%2=1):bits .xor .u32 ((c:Int)/2) 3988292384=(bitStep c:Nat):=by
 have h1:((c:Int)/2)=((c/2:Nat):Int):=by simp
 have:=u32_xor_nat (c/2) 3988292384 (by omega) (by decide)
 rw[h1]
 simp only[bitStep,if_pos ho]
 simpa using this
theorem aiY_(c:Nat)(ho: ¬c%2=1):(c:Int)/2=(bitStep c:Nat):=by
 simp only[bitStep,if_neg ho]
 simp
set_option maxHeartbeats 400000 in
theorem aap_(v:Value)(bs:List Nat)(w:World)(hv:Z5_ w v bs):
  Calls Tryz.prog 42 #[v] w fun e w'=>e= .returned (.int .u32 (refSum bs:Nat))∧w=w':=by
 obtain⟨a,cap,rfl,hm,hb,hc⟩:=hv
 unfold maxLen at hm
 go_enter Tryz.func42, Tryz.ntmps42
 go_wp2
 go_loop [3,4] (fun c i=> ∃k:Nat,k≤bs.length∧i= .int .i64 k∧c= .int .u32 ((bs.take k).foldl c3_ 4294967295:Nat)) (fun _ i=>bs.length-(intOf i).toNat)
 case atStart=>exact⟨0,Nat.zero_le _,rfl,rfl⟩
 case round=>
  obtain⟨k,hk,rfl,rfl⟩:=hrel
  by_cases hlt:k<bs.length
  ·have hC:=w6_ bs hb k hk
   have hX:=hb k hlt
   obtain⟨b,off,rfl,hbl,hcell⟩:=hc (by intro h;simp[h]at hlt)
   have hx:=hcell k hlt
   have HS:=Lib.hid (T9_ bs k hlt)
   clear hcell
   revert HS hC hX hx
   generalize(bs.take k).foldl c3_ 4294967295=C
   generalize bs.getD k 0=x
   intro hC hX hx HS
   clear hb hc
   have q1:=abe_ C x hC hX
   have e1:=u32_xor_nat C x hC (by omega)
   go_wp2
   go_loop [3,5] (fun c j=> ∃n:Nat,n≤8∧j= .int .i64 n∧c= .int .u32 (bitN n (C^^^x):Nat)) (fun _ j=>8-(intOf j).toNat)
   case atStart=>exact⟨0,Nat.zero_le _,rfl,rfl⟩
   case round=>
    obtain⟨n,hn,rfl,rfl⟩:=hrel
    have hD:=agI_ n _ q1
    have HN:=Lib.hid (j5_ n (C^^^x))
    by_cases hl8:n<8
    ·revert HN hD
     generalize bitN n (C^^^x)=D
     intro hD HN
     by_cases ho:D%2=1
     ·have o1:((D:Int)%2==1)=true:=by rw[beq_iff_eq];omega
      have o2:=amN_ D hD ho
      go_wp2
      go_round
      case rel=>exact⟨n+1,by omega,by go_num,by rw[HN.out]⟩
      case measure=>simp[intOf];omega
     ·have o1:((D:Int)%2==1)=false:=by rw[beq_eq_false_iff_ne];omega
      have o2:=aiY_ D ho
      go_wp2
      go_round
      case rel=>exact⟨n+1,by omega,by go_num,by rw[HN.out]⟩
      case measure=>simp[intOf];omega
    ·obtain rfl:n=8:=by omega
     go_wp2
     go_round
     case rel=>exact⟨k+1,by omega,by go_num,by rw[HS.out];rfl⟩
     case measure=>simp[intOf];omega
  ·have e1:=abO_ _ (w6_ bs hb k hk)
   have hk2:k=bs.length:=by omega
   have HK:=Lib.hid hk2
   clear hb hc hk2
   go_wp2
   go_ret
   exact⟨aeP_ (by simp only[HK.out,List.take_length];rfl),rfl⟩
end Go.Proofs.YtachglcffimmeaaGreat
end
section
namespace Go.Proofs.YtachglcffimmeaaGreat
theorem akm_(a b:Nat):(a^^^b)%2=1↔ ¬(a%2=1↔b%2=1):=by
 have h:=Nat.testBit_xor a b 0
 simp only[Nat.testBit_zero]at h
 by_cases ha:a%2=1<;>by_cases hb:b%2=1<;>simp[ha,hb]at h ⊢ <;>omega
theorem aaW_(a b:Nat):bitStep (a^^^b)=bitStep a^^^bitStep b:=by
 have h1:=akm_ a b
 have h2:(a^^^b)/2=a/2^^^b/2:=by
  apply Nat.eq_of_testBit_eq;intro i
  simp[←Nat.testBit_succ]
 unfold bitStep
 rw[h2]
 generalize a/2=x
 generalize b/2=y
 by_cases ha:a%2=1<;>by_cases hb:b%2=1<;>simp only[ha,hb,h1,iff_self,not_true_eq_false,if_true,if_false,iff_true,iff_false,not_false_eq_true]<;>(apply Nat.eq_of_testBit_eq;intro i;simp only[Nat.testBit_xor];cases x.testBit i<;>cases y.testBit i<;>cases Nat.testBit 3988292384 i<;>rfl)
theorem Q4_(n a b:Nat):bitN n (a^^^b)=bitN n a^^^bitN n b:=by
 induction n with
 |zero=>rfl
 |succ n ih=>rw[j5_,j5_,j5_,ih,aaW_]
theorem aco_(m n c:Nat):bitN (m+n) c=bitN m (bitN n c):=by
 induction m with
 |zero=>simp[bitN]
 |succ m ih=>rw[Nat.succ_add,j5_,ih,j5_]
theorem aaX_(h:Nat):bitStep (2*h)=h:=by
 unfold bitStep
 rw[if_neg (by omega)];omega
theorem acn_(n h:Nat):bitN n (2^n*h)=h:=by
 induction n generalizing h with
 |zero=>simp[bitN]
 |succ n ih=>
  rw[j5_,show 2^(n+1)*h=2^n*(2*h)by rw[Nat.pow_succ,Nat.mul_assoc],ih,aaX_]
theorem T0_(n a:Nat):a=2^n*(a/2^n)^^^(a%2^n):=by
 apply Nat.eq_of_testBit_eq;intro i
 rw[Nat.testBit_xor,Nat.testBit_two_pow_mul,Nat.testBit_mod_two_pow,Nat.testBit_div_two_pow]
 by_cases h:n≤i
 ·have h1: ¬i<n:=by omega
  simp[h,h1,Nat.sub_add_cancel h]
 ·have h1:i<n:=by omega
  simp[h,h1]
theorem ajY_(c:Nat):nib c=bitN 4 c:=by
 have key: ∀i:Fin 16,tab i.val=bitN 4 i.val:=by decide
 have h:=key ⟨c%16,by omega⟩
 conv=>rhs;rw[T0_ 4 c,Q4_,acn_]
 unfold nib
 rw[h]
theorem aaU_(c x:Nat):f8_ c x=c3_ c x:=by
 unfold f8_ c3_
 rw[ajY_,ajY_,←aco_]
theorem X8_(bs:List Nat):crcSum bs=refSum bs:=by
 unfold crcSum agy_ refSum
 rw[show f8_=c3_ from funext fun c=>funext fun x=>aaU_ c x]
theorem ace_(l m:List Nat)(a b:Nat)(hl:l.length=m.length):(List.zipWith (· ^^^ ·) l m).foldl c3_ (a^^^b)=l.foldl c3_ a^^^m.foldl c3_ b:=by
 induction l generalizing m a b with
 |nil=>cases m with
  |nil=>rfl
  |cons _ _=>simp at hl
 |cons x l ih=>cases m with
  |nil=>simp at hl
  |cons y m=>
   simp only[List.zipWith_cons_cons,List.foldl_cons]
   rw[show c3_ (a^^^b) (x^^^y)=c3_ a x^^^c3_ b y by
    unfold c3_
    rw[←Q4_]
    congr 1
    rw[Nat.xor_assoc,←Nat.xor_assoc b,Nat.xor_comm b x,Nat.xor_assoc x,Nat.xor_assoc]]
   exact ih m _ _ (by simpa using hl)
def lows:Nat→Nat→List Nat
 |0,_=>[]
 |n+1,v=>(v%256)::lows n (v/256)
theorem agi_(n c v:Nat)(hv:v<256^n):(lows n v).foldl c3_ c=bitN (8*n) (c^^^v):=by
 induction n generalizing c v with
 |zero=>
  have:v=0:=by simp at hv;omega
  subst this;simp[lows,bitN]
 |succ n ih=>
  simp only[lows,List.foldl_cons]
  rw[ih _ _ (by rw[Nat.pow_succ]at hv;omega)]
  rw[show 8*(n+1)=8*n+8 by omega,aco_]
  congr 1
  unfold c3_
  conv=>rhs;rw[T0_ 8 v]
  rw[Nat.xor_comm (2^8*_),←Nat.xor_assoc,Q4_ (b:=2^8*_),acn_]
theorem rest(bs:List Nat)(hb: ∀i,i<bs.length→bs.getD i 0<256):refSum (bs++lows 4 (refSum bs))=558161692:=by
 have hlt:refSum bs<256^4:=by
  rw[←X8_];exact agw_ bs hb
 have h:=agi_ 4 (bs.foldl c3_ 4294967295) (refSum bs) hlt
 conv at h=>rhs;unfold refSum
 generalize lows 4 (refSum bs)=t at h ⊢
 unfold refSum
 rw[List.foldl_append]
 have e: ∀x:Nat,x^^^(4294967295^^^x)=4294967295:=fun x=>by rw[Nat.xor_comm 4294967295 x,←Nat.xor_assoc,Nat.xor_self,Nat.zero_xor]
 rw[h,e]
 decide
theorem join(a b c:List Nat)(h1:a.length=b.length)(h2:a.length=c.length):
  refSum (List.zipWith (· ^^^ ·) (List.zipWith (· ^^^ ·) a b) c)=refSum a^^^refSum b^^^refSum c:=by
 unfold refSum
 have e1:(4294967295:Nat)=4294967295^^^4294967295^^^4294967295:=by decide
 conv=>lhs;rhs;rw[e1]
 rw[ace_ _ _ _ _ (by simp;omega),ace_ _ _ _ _ h1]
 generalize a.foldl c3_ 4294967295=x
 generalize b.foldl c3_ 4294967295=y
 generalize c.foldl c3_ 4294967295=z
 generalize(4294967295:Nat)=q
 apply Nat.eq_of_testBit_eq;intro i
 simp only[Nat.testBit_xor]
 cases q.testBit i<;>cases x.testBit i<;>cases y.testBit i<;>cases z.testBit i<;>rfl
end Go.Proofs.YtachglcffimmeaaGreat
end
section
namespace Go.Proofs.YtachglcffimmeaaGreat.Ev
open Go Go.Proofs Go.RowKit
structure U8 where
 v:Int
def u8E(a:U8)(_:Nat):Td:= .sc (.int .u8 a.v)
def u8D(c:Nat→Td):U8:=match c 0 with
 | .sc (.int .u8 a)=>⟨a⟩
 |_=>⟨0⟩
def u8Ok(c:Nat→Td):Bool:=match c 0 with
 | .sc (.int .u8 a)=>decide (0≤a)&&decide (a<256)
 |_=>false
theorem A6_{c:Nat→Td}(h:u8Ok c=true):c 0= .sc (.int .u8 (u8D c).v)∧0≤(u8D c).v∧(u8D c).v<256:=by
 unfold u8Ok at h
 split at h
 ·rename_i a h0
  simp only[Bool.and_eq_true,decide_eq_true_eq]at h
  simp only[u8D,h0]
  exact⟨trivial,h.1,h.2⟩
 ·cases h
instance encU:Enc U8 where
 es:=1
 enc:=u8E
 dec:=u8D
 ok:=u8Ok
 dflt:=⟨0⟩
 good c:=u8Ok c=true
 okgood c h:=h
 law c h w F j y hj ht:=by
  have:j=0:=by omega
  subst this
  rw[(A6_ h).1]at ht
  exact ht
 back a:=rfl
 mrg a b w F j y hj:=⟨fun h=>h,fun h=>h⟩
instance:EncM U8 where
 cong c c' h:=by
  have h0:c 0=c' 0:=h 0 (by show 0<1;omega)
  exact⟨by show u8D c=u8D c';unfold u8D;rw[h0],by show u8Ok c=u8Ok c';unfold u8Ok;rw[h0]⟩
 mt a b:=⟨rfl,rfl⟩
 mf a b:=⟨rfl,rfl⟩
theorem esU:Enc.es U8=1:=rfl
def okU(b:U8):Bool:=decide (0≤b.v)&&decide (b.v<256)
theorem aov_(a:U8):okA U8 a=okU a:=rfl
theorem F4_(a:U8):okA U8 a=true↔0≤a.v∧a.v<256:=by
 rw[aov_];simp[okU]
def shU(_:Nat):Sh:= .int .u8
theorem aqo_(c:Nat→Td)(h: ∀j,j<1→ShOk (shU j) (c j)):Enc.good U8 c:=by
 have h0:=h 0 (by omega)
 show u8Ok c=true
 unfold u8Ok
 revert h0
 cases c 0 with
 |fr=>intro h;exact h.elim
 |sc x=>
  cases x with
  |int k n=>
   intro h
   obtain⟨rfl,hw⟩:=h
   simp[Lit.wf,IntKind.min,IntKind.max,IntKind.signed,IntKind.bits]at hw
   show(decide (0≤n)&&decide (n<256))=true
   simp;omega
  |_=>intro h;exact h.elim
theorem aoE_{t:Td}(h:p2_ U8 t):(a4_ U8 t).all (okA U8)=true:=by
 rw[List.all_eq_true]
 refine agc_ (p:=fun b=>okA U8 b=true) (fun c hc=> ?_) h
 have:=A6_ hc
 exact(F4_ _).2 this.2
def j7_(l:List U8):List Nat:=l.map fun b=>b.v.toNat
theorem p0_(l:List U8):(j7_ l).length=l.length:=by simp[j7_]
theorem F8_{l:List U8}{i:Nat}(h:i<l.length):(j7_ l).getD i 0=(l.getD i Enc.dflt).v.toNat:=by
 simp[j7_,List.getD,h]
theorem e1_{l:List U8}(h:l.all (okA U8)=true){i:Nat}(hi:i<l.length):0≤(l.getD i Enc.dflt).v∧(l.getD i Enc.dflt).v<256:=by
 rw[List.all_eq_true]at h
 exact(F4_ _).1 (h _ (by simp[List.getD,hi]))
theorem agE_{w:World}{F:Nat→Prop}{y:Value}{l:List U8}{c:Nat}(hl:l.length≤1000000)(hok:l.all (okA U8)=true)(h:TRo w F (tdL l c) y):Z5_ w y (j7_ l):=by
 have hm:(j7_ l).length≤maxLen:=by rw[p0_];unfold maxLen;omega
 have hb: ∀i,i<(j7_ l).length→(j7_ l).getD i 0<256:=fun i hi=>by
  rw[p0_]at hi
  rw[F8_ hi]
  have:=e1_ hok hi
  omega
 rcases h with⟨h0,_,rfl⟩|⟨h0,_,a,c',rfl⟩|⟨h0,b,o,c',rfl,h2,h3,h4⟩
 ·have:l=[]:=List.eq_nil_of_length_eq_zero h0
  subst this
  exact⟨none,0,rfl,hm,hb,fun h=>absurd rfl h⟩
 ·have:l=[]:=List.eq_nil_of_length_eq_zero h0
  subst this
  exact⟨some a,c',rfl,hm,hb,fun h=>absurd rfl h⟩
 ·refine⟨some ⟨b,o,none⟩,c',by rw[p0_],hm,hb,fun _=>⟨b,o,rfl,h3,fun i hi=> ?_⟩⟩
  rw[p0_]at hi
  obtain⟨z,z1,z2,z3⟩:=h4 i hi 0 (by show 0<1;omega)
  have z3:VR I3_ (.int .u8 (l.getD i Enc.dflt).v) z:=z3
  cases z3
  have he:o+i=o+i*Enc.es U8+0:=by rw[esU];omega
  rw[he,z1,F8_ hi]
  have:=e1_ hok hi
  rw[Int.toNat_of_nonneg this.1]
theorem abv_{P:Program}{g:FuncId}(h: ∀(v:Value) (bs:List Nat) (w:World),Z5_ w v bs→Calls P g #[v] w fun e w'=>e= .returned (.int .u32 (refSum bs:Nat))∧Below w.heap.size w w'):
  c5_ P g (ok1 U8 fun l _=>l.all (okA U8)) (ans1 U8 fun l _=> .ret (.cell (.sc (.int .u32 (Int.ofNat (refSum (j7_ l))))))):=by
 intro ts hok w args' F hF ha
 unfold ok1 at hok
 split at hok
 ·rename_i t
  simp only[Bool.and_eq_true]at hok
  obtain⟨h1,h2⟩:=b7_ hok.1
  obtain⟨y,m,e,hy,hm'⟩:=ha.uncons
  have:=hm'.nil_inv
  subst this
  have:args'= #[y]:=by
   have:=congrArg List.toArray e
   simpa using this
  subst this
  refine(h y (j7_ (a4_ U8 t)) w (agE_ h1 hok.2 (h9_ hok.1 hy))).mono fun e w' ⟨he,hb⟩=> ?_
  subst he
  exact⟨hb,F,fun b hb=> .inr hb,_,[],rfl,⟨rfl,.int _ _⟩,List.nodup_nil⟩
 ·cases hok
theorem agv_:c5_ Tryz.prog 71 (ok1 U8 fun l _=>l.all (okA U8)) (ans1 U8 fun l _=> .ret (.cell (.sc (.int .u32 (Int.ofNat (refSum (j7_ l))))))):=abv_ fun v bs w h=>by rw[←X8_];exact ahD_ v bs w h
theorem aeM_:c5_ Tryz.prog 42 (ok1 U8 fun l _=>l.all (okA U8)) (ans1 U8 fun l _=> .ret (.cell (.sc (.int .u32 (Int.ofNat (refSum (j7_ l))))))):=abv_ fun v bs w h=>(aap_ v bs w h).mono fun e w' ⟨he,hw⟩=>⟨he,by subst hw;exact Below.refl _ _⟩
theorem aaQ_:c5_ Tryz.prog 47 (okC 1) (ansC 1):=l9_ follows (fun n c f β K=>by kernel_rfl) (fun es' f β K=>by kernel_rfl)
def toldU:Told:=((akT_.tree 71 (ok1 U8 fun l _=>l.all (okA U8)) (ans1 U8 fun l _=> .ret (.cell (.sc (.int .u32 (Int.ofNat (refSum (j7_ l)))))))).tree 42 (ok1 U8 fun l _=>l.all (okA U8)) (ans1 U8 fun l _=> .ret (.cell (.sc (.int .u32 (Int.ofNat (refSum (j7_ l)))))))).tree 47 (okC 1) (ansC 1)
theorem toldU_ok:a8_ Tryz.prog toldU:=Told.tree_ok (Told.tree_ok (Told.tree_ok abr_ agv_) aeM_) aaQ_
def slE:List Nat:=[0,1,12,13]
def lvE:AX→List Nat:=fun x=>match x with
 | .ret=>[4]
 |_=>slE
def FE(l m:List U8)(c d:Nat)(i:Int):AFr:=mkF 26 [(0,.slice (some ⟨0,0,some 0⟩) l.length c),(1,.slice (some ⟨1,0,some 0⟩) m.length d),(12,.int .i64 (Int.ofNat l.length)),(13,.int .i64 i)]
def SE(l m:List U8):ASt:=mkS [some (rowO .look l),some (rowO .look m)]
def FEr(q:Bool):AFr:=mkF 26 [(4,.bool q)]
def f9_(l m:List U8):Bool:=decide (l.length=m.length)&&(List.range l.length).all fun i=>decide ((l.getD i Enc.dflt).v=(m.getD i Enc.dflt).v)
def exE(l m:List U8)(c d:Nat):Nat→Kt→Prop:=fun b K=>(f9_ l m=true→K (.exit b) (FE l m c d l.length) (SE l m))∧(f9_ l m=false→K .ret (FEr false) (SE l m))
def shpE(l m:List U8)(c d:Nat)(i':Int):AFr×ASt:=(FE l m c d i',SE l m)
def apS_(l m:List U8)(q':Bool):AFr×ASt:=(FEr q',SE l m)
theorem apz_(l m:List U8)(c d:Nat)(β:Bs)(K:AE→Prop):lawE Tryz.prog toldU 100 20 β (fun _=>0) (cnOf 2 fun _=>slE) (exE l m c d) 66 [.slice (some ⟨0,0,some 0⟩) l.length c,.slice (some ⟨1,0,some 0⟩) m.length d] (mkS [some (rowO .look l),some (rowO .look m)]) (fun r _=>K r)=
 (br (Int.ofNat l.length !=Int.ofNat m.length) (K (.returned (.bool false))) (LoopJ Tryz.prog β (exE l m c d) 0 (a5_ Tryz.prog 66 0) (FE l m c d (0:Int)) (SE l m)∧(f9_ l m=true→K (.returned (.bool true)))∧(f9_ l m=false→K (.returned (.bool false))))):=by kernel_rfl
theorem akL_(l m:List U8)(c d:Nat)(i:Int)(β:Bs)(N:Kt)(ex:Nat→Kt→Prop):c0_ Tryz.prog toldU 100 20 β (fun _=>0) (cnOf 2 fun _=>slE) ex 66 0 2 lvE (FE l m c d i) (SE l m) N=
 (fun(z0 z1:Nat)=>(br (decide (i<Int.ofNat z1)) (need (decide ((0:Int)≤i)) (need (Nat.blt (Int.toNat i) z1) (need (Nat.ble 0 z0&&Nat.blt z0 z1) (need (decide ((0:Int)≤i)) (need (Nat.blt (Int.toNat i) m.length) (need (Nat.ble 0 z0&&Nat.blt z0 m.length) (br (U8.v (List.getD l z0 Enc.dflt) !=U8.v (List.getD m z0 Enc.dflt)) (onP N .ret (apS_ l m false)) (onP N .normal (shpE l m c d (IntKind.wrap .i64 (i+(1:Int)))))))))))) (onP N (.exit 0) (shpE l m c d i)))) (0+Int.toNat i) l.length:=by kernel_rfl
end Go.Proofs.YtachglcffimmeaaGreat.Ev
end
