/-
  Functions of trees, of which it is told what they answer.
-/
import Derived.Test.YtachglcffimmeaaGreatR14
set_option linter.unusedVariables false
set_option linter.unusedSimpArgs false
namespace Go.Proofs.YtachglcffimmeaaGreat.Ev
open Go Go.RowKit
inductive Ta where
 |cell (t:Td)
 |agg (ts:List Td)
inductive Ra where
 |sc (x:Value)
 |own (es n c:Nat) (e:Nat→Nat→Td)
 |still (es n c:Nat) (e:Nat→Nat→Td)
inductive Rv where
 |cell (r:Ra)
 |agg (rs:List Ra)
inductive Ans where
 |ret (r:Rv)
 |rets (rs:List Rv)
 |pan (v:Value)
def PW{α β:Type}(R:α→β→Prop)(l:List α)(m:List β):Prop:=l.length=m.length∧ ∀(i:Nat) a b,l[i]? =some a→m[i]? =some b→R a b
theorem PW.nil{α β:Type}(R:α→β→Prop):PW R [] []:=⟨rfl,fun i a b h=>by simp at h⟩
theorem PW.cons{α β:Type}{R:α→β→Prop}{a:α}{b:β}{l:List α}{m:List β}(h:R a b)(k:PW R l m):PW R (a::l) (b::m):=by
 refine⟨by simp[k.1],fun i x y hx hy=> ?_⟩
 cases i with
 |zero=>simp at hx hy;subst hx hy;exact h
 |succ i=>exact k.2 i x y (by simpa using hx) (by simpa using hy)
theorem PW.uncons{α β:Type}{R:α→β→Prop}{a:α}{l:List α}{m:List β}(h:PW R (a::l) m): ∃b m',m=b::m'∧R a b∧PW R l m':=by
 cases m with
 |nil=>have:=h.1;simp at this
 |cons b m=>exact⟨b,m,rfl,h.2 0 a b (by simp) (by simp),⟨by have:=h.1;simpa using this,fun i x y hx hy=>h.2 (i+1) x y (by simpa using hx) (by simpa using hy)⟩⟩
theorem PW.nil_inv{α β:Type}{R:α→β→Prop}{m:List β}(h:PW R [] m):m=[]:=List.eq_nil_of_length_eq_zero h.1.symm
theorem PW.mono{α β:Type}{R R':α→β→Prop}(hR: ∀a b,R a b→R' a b){l:List α}{m:List β}(h:PW R l m):PW R' l m:=⟨h.1,fun i a b x y=>hR a b (h.2 i a b x y)⟩
def TRo(w:World)(F:Nat→Prop):Td→Value→Prop
 | .sc x,y=>VR I3_ x y
 | .fr es n c e,y=>(n=0∧c=1∧y= .slice none 0 0)∨(n=0∧c=0∧ ∃a c',y= .slice (some a) 0 c')∨
   (0<n∧ ∃b o c',y= .slice (some ⟨b,o,none⟩) n c'∧n≤c'∧b<w.heap.size∧ ∀i,i<n→ ∀j,j<es→ ∃z,w.cell? ⟨b,o+i*es+j,none⟩=some z∧z.oneCell'=true∧TR w F (e i j) z)
theorem TRo.mono{w:World}{F F':Nat→Prop}(hF: ∀b,F b→F' b){t:Td}{y:Value}(h:TRo w F t y):TRo w F' t y:=by
 cases t with
 |sc x=>exact h
 |fr es n c e=>
  rcases h with h|h|⟨h0,b,o,c',h1,h2,h3,h4⟩
  ·exact .inl h
  ·exact .inr (.inl h)
  ·refine .inr (.inr ⟨h0,b,o,c',h1,h2,h3,fun i hi j hj=> ?_⟩)
   obtain⟨z,z1,z2,z3⟩:=h4 i hi j hj
   exact⟨z,z1,z2,z3.kept hF (fun _ _=>rfl)⟩
def TaR(w:World)(F:Nat→Prop):Ta→Value→Prop
 | .cell t,y=>TRo w F t y
 | .agg ts,y=> ∃a:Array Value,y= .agg a∧PW (TRo w F) ts a.toList
theorem TaR.mono{w:World}{F F':Nat→Prop}(hF: ∀b,F b→F' b){t:Ta}{y:Value}(h:TaR w F t y):TaR w F' t y:=by
 cases t with
 |cell t=>exact TRo.mono hF h
 |agg ts=>obtain⟨a,h1,h2⟩:=h;exact⟨a,h1,h2.mono fun _ _=>TRo.mono hF⟩
def RaR(w w':World)(F:Nat→Prop):Ra→Value→List Nat→Prop
 | .sc x,y,l=>l=[]∧VR I3_ x y
 | .still es n c e,y,l=>l=[]∧TR w' F (.fr es n c e) y
 | .own es n c e,y,l=>(l=[]∧n=0∧((c=1∧y= .slice none 0 0)∨(c=0∧ ∃a,y= .slice (some a) 0 0)))∨
   ∃b o c' C t fr,l=[b]∧y= .slice (some ⟨b,o,none⟩) n c'∧n≤c'∧(c≠0→0<n)∧w.heap.size≤b∧w'.heap[b]? =some (.cells C t fr)∧FrOk C.size fr∧o+c'*es≤C.size∧ ¬F b∧
    ∀i,i<n→ ∀j,j<es→ ∃z,C[o+i*es+j]? =some z∧z.oneCell'=true∧TR w' F (e i j) z
def RasR(w w':World)(F:Nat→Prop):List Ra→List Value→List Nat→Prop
 |[],[],l=>l=[]
 |r::rs,y::ys,l=> ∃l1 l2,l=l1++l2∧RaR w w' F r y l1∧RasR w w' F rs ys l2
 |_,_,_=>False
def RvR(w w':World)(F:Nat→Prop):Rv→Value→List Nat→Prop
 | .cell r,y,l=>RaR w w' F r y l
 | .agg rs,y,l=> ∃a:Array Value,y= .agg a∧RasR w w' F rs a.toList l
def RvsR(w w':World)(F:Nat→Prop):List Rv→List Value→List Nat→Prop
 |[],[],l=>l=[]
 |r::rs,y::ys,l=> ∃l1 l2,l=l1++l2∧RvR w w' F r y l1∧RvsR w w' F rs ys l2
 |_,_,_=>False
def AnsR(w:World)(F:Nat→Prop)(a:Ans)(e:Ending)(w':World):Prop:=Below w.heap.size w w'∧ ∃F',(∀b,F' b→(w.heap.size≤b∧b<w'.heap.size)∨F b)∧
 match a with
 | .ret r=> ∃y l,e= .returned y∧RvR w w' F' r y l∧l.Nodup
 | .rets rs=> ∃(a:Array Value) (l:List Nat),e= .returned (.tuple a)∧RvsR w w' F' rs a.toList l∧l.Nodup
 | .pan v=> ∃v',e= .panicked [{v:=v',recovered:=false}]∧VR I3_ v v'
def c5_(P:Program)(g:FuncId)(ok:List Ta→Bool)(ans:List Ta→Ans):Prop:= ∀ts,ok ts=true→ ∀(w:World) (args':Array Value) F,(∀b,F b→b<w.heap.size)→PW (TaR w F) ts args'.toList→Calls P g args' w fun e w'=>AnsR w F (ans ts) e w'
def argT(v:Value)(st:ASt):Rs (Td×ASt):=match v with
 | .slice none 0 0=> .ok (.fr 0 0 1 noT,st)
 | .slice (some ⟨b,0,some i0⟩) n c=>match st.h.get b with
  |some (.row _ es lo m g)=>cond (Nat.ble lo i0&&Nat.ble (i0+n) m) (.ok (.fr es n c fun i=>g (i0+i),st)) (.er "argT: beyond")
  |_=> .er "argT: row"
 | .slice (some ⟨b,o,none⟩) n _=>match L6_ (st.h.get b)with
  |some (cs,es)=>cond ((Nat.blt 0 es||Nat.beq n 0)&&Nat.ble (o+n*es) cs.length) ((Rs.of "argT" (s0_ (n*es) (H3_ o cs))).bnd fun l=>(toTs (toT 4) l st).bnd fun r=>match r with
   |(ts,st1)=> .ok (.fr es n 0 (selT es n ts),st1)) (.er "argT: cells")
  |none=> .er "argT: cells"
 |v=>cond (s2_ v) (.ok (.sc v,st)) (.er "argT: value")
def argA(v:Value)(st:ASt):Rs (Ta×ASt):=match v with
 | .agg vs=>(toTs argT vs.toList st).bnd fun r=>match r with
  |(ts,st1)=> .ok (.agg ts,st1)
 |v=>(argT v st).bnd fun r=>match r with
  |(t,st1)=> .ok (.cell t,st1)
def argsA:List Value→ASt→Rs (List Ta×ASt)
 |[],st=> .ok ([],st)
 |v::l,st=>(argA v st).bnd fun r=>match r with
  |(t,st1)=>(argsA l st1).bnd fun q=>match q with
   |(ts,st2)=> .ok (t::ts,st2)
def raA(r:Ra)(st:ASt):Value×ASt:=match r with
 | .sc x=>(x,st)
 | .own es n c e=>(.slice (some ⟨st.next,0,some 0⟩) n c,st.new (.row .mine es 0 n e))
 | .still es n c e=>(.slice (some ⟨st.next,0,some 0⟩) n c,st.new (.row .still es 0 n e))
def rasA:List Ra→ASt→List Value×ASt
 |[],st=>([],st)
 |r::l,st=>match raA r st with
  |(v,st1)=>match rasA l st1 with
   |(vs,st2)=>(v::vs,st2)
def rvA(r:Rv)(st:ASt):Value×ASt:=match r with
 | .cell r=>raA r st
 | .agg rs=>match rasA rs st with
  |(vs,st1)=>(.agg vs.toArray,st1)
def rvsA:List Rv→ASt→List Value×ASt
 |[],st=>([],st)
 |r::l,st=>match rvA r st with
  |(v,st1)=>match rvsA l st1 with
   |(vs,st2)=>(v::vs,st2)
def ASt.skip(st:ASt):ASt:=⟨st.next+1,st.h,st.lo⟩
def ansA(a:Ans)(st:ASt):AE×ASt:=match a with
 | .ret r=>match rvA r st.skip with
  |(v,st1)=>(.returned v,st1)
 | .rets rs=>match rvsA rs st.skip with
  |(vs,st1)=>(.returned (.tuple vs.toArray),st1)
 | .pan v=>(.panicked v,st.skip)
def ajd_(v:Value)(st:ASt)(K:Td→ASt→Prop):Prop:=match v with
 | .slice none 0 0=>K (.fr 0 0 1 noT) st
 | .slice (some ⟨b,0,some i0⟩) n c=>match st.h.get b with
  |some (.row _ es lo m g)=>need (Nat.ble lo i0&&Nat.ble (i0+n) m) (K (.fr es n c fun i=>g (i0+i)) st)
  |_=>False
 | .slice (some ⟨b,o,none⟩) n _=>match L6_ (st.h.get b)with
  |some (cs,es)=>cond ((Nat.blt 0 es||Nat.beq n 0)&&Nat.ble (o+n*es) cs.length) (optK (s0_ (n*es) (H3_ o cs)) fun l=>aab_ (toTN 4) l st fun ts st1=>K (.fr es n 0 (selT es n ts)) st1) False
  |none=>False
 |v=>cond (s2_ v) (K (.sc v) st) False
def amV_(v:Value)(st:ASt)(K:Ta→ASt→Prop):Prop:=match v with
 | .agg vs=>aab_ ajd_ vs.toList st fun ts st1=>K (.agg ts) st1
 |v=>ajd_ v st fun t st1=>K (.cell t) st1
def agS_:List Value→ASt→(List Ta→ASt→Prop)→Prop
 |[],st,K=>K [] st
 |v::l,st,K=>amV_ v st fun t st1=>agS_ l st1 fun ts st2=>K (t::ts) st2
def raAN(r:Ra)(st:ASt)(K:Value→ASt→Prop):Prop:=match r with
 | .sc x=>K x st
 | .own es n c e=>K (.slice (some ⟨st.next,0,some 0⟩) n c) (st.new (.row .mine es 0 n e))
 | .still es n c e=>K (.slice (some ⟨st.next,0,some 0⟩) n c) (st.new (.row .still es 0 n e))
def aie_:List Ra→ASt→(List Value→ASt→Prop)→Prop
 |[],st,K=>K [] st
 |r::l,st,K=>raAN r st fun v st1=>aie_ l st1 fun vs st2=>K (v::vs) st2
def rvAN(r:Rv)(st:ASt)(K:Value→ASt→Prop):Prop:=match r with
 | .cell r=>raAN r st K
 | .agg rs=>aie_ rs st fun vs st1=>K (.agg ⟨vs⟩) st1
def ahQ_:List Rv→ASt→(List Value→ASt→Prop)→Prop
 |[],st,K=>K [] st
 |r::l,st,K=>rvAN r st fun v st1=>ahQ_ l st1 fun vs st2=>K (v::vs) st2
def ajm_(a:Ans)(st:ASt)(K:AE→ASt→Prop):Prop:=match a with
 | .ret r=>rvAN r st.skip fun v st1=>K (.returned v) st1
 | .rets rs=>ahQ_ rs st.skip fun vs st1=>K (.returned (.tuple ⟨vs⟩)) st1
 | .pan v=>K (.panicked v) st.skip
theorem acr_(v:Value)(st:ASt)(K:Td→ASt→Prop)(h:ajd_ v st K): ∃t st',argT v st= .ok (t,st')∧K t st':=by
 unfold ajd_ at h
 split at h
 ·exact⟨_,_,rfl,h⟩
 ·rename_i b i0 n c
  split at h
  ·rename_i k es lo m g hg
   obtain⟨h1,h⟩:=ne_ h
   exact⟨_,_,by simp only[argT,hg,h1,cond_true],h⟩
  ·exact h.elim
 ·rename_i b o n c
  split at h
  ·rename_i cs es hg
   cases hb:((Nat.blt 0 es||Nat.beq n 0)&&Nat.ble (o+n*es) cs.length)with
   |false=>rw[hb]at h;exact h.elim
   |true=>
    rw[hb]at h
    obtain⟨l,h1,h⟩:=F2_ h
    obtain⟨ts,st1,h2,h⟩:=t6_ (aac_ 4) h
    exact⟨_,_,by simp only[argT,hg,hb,cond_true,h1,h2,Rs.of,Rs.bnd],h⟩
  ·exact h.elim
 ·rename_i h1 h2 h3
  cases hs:s2_ v with
  |false=>rw[hs]at h;exact h.elim
  |true=>
   rw[hs]at h
   refine⟨.sc v,st,?_,h⟩
   unfold argT
   split
   ·exact(h1 rfl).elim
   ·exact(h2 _ _ _ _ rfl).elim
   ·exact(h3 _ _ _ _ rfl).elim
   ·simp only[hs,cond_true]
theorem ajf_{v:Value}{st:ASt}{K:Ta→ASt→Prop}(h:amV_ v st K): ∃t st',argA v st= .ok (t,st')∧K t st':=by
 unfold amV_ at h
 split at h
 ·obtain⟨ts,st1,h1,h2⟩:=t6_ acr_ h
  exact⟨_,_,by simp only[argA,h1,Rs.bnd],h2⟩
 ·rename_i hne
  obtain⟨t,st1,h1,h2⟩:=acr_ _ _ _ h
  refine⟨_,_,?_,h2⟩
  unfold argA
  split
  ·exact(hne _ rfl).elim
  ·simp only[h1,Rs.bnd]
theorem agR_: ∀{l:List Value} {st:ASt} {K:List Ta→ASt→Prop},agS_ l st K→ ∃ts st',argsA l st= .ok (ts,st')∧K ts st':=by
 intro l
 induction l with
 |nil=>intro st K h;exact⟨[],st,rfl,h⟩
 |cons v l ih=>
  intro st K h
  obtain⟨t,st1,h1,h2⟩:=ajf_ h
  obtain⟨ts,st2,h3,h4⟩:=ih h2
  exact⟨t::ts,st2,by simp only[argsA,h1,h3,Rs.bnd],h4⟩
theorem afb_(r:Ra)(st:ASt)(K:Value→ASt→Prop):raAN r st K=K (raA r st).1 (raA r st).2:=by cases r<;>rfl
theorem aid_: ∀(l:List Ra) (st:ASt) (K:List Value→ASt→Prop),aie_ l st K=K (rasA l st).1 (rasA l st).2:=by
 intro l
 induction l with
 |nil=>intro st K;rfl
 |cons r l ih=>intro st K;simp only[aie_,afb_,ih];rfl
theorem aeL_(r:Rv)(st:ASt)(K:Value→ASt→Prop):rvAN r st K=K (rvA r st).1 (rvA r st).2:=by
 cases r with
 |cell r=>exact afb_ r st K
 |agg rs=>simp only[rvAN,aid_];rfl
theorem ahP_: ∀(l:List Rv) (st:ASt) (K:List Value→ASt→Prop),ahQ_ l st K=K (rvsA l st).1 (rvsA l st).2:=by
 intro l
 induction l with
 |nil=>intro st K;rfl
 |cons r l ih=>intro st K;simp only[ahQ_,aeL_,ih];rfl
theorem ajl_(a:Ans)(st:ASt)(K:AE→ASt→Prop):ajm_ a st K=K (ansA a st).1 (ansA a st).2:=by
 cases a with
 |ret r=>simp only[ajm_,aeL_];rfl
 |rets rs=>simp only[ajm_,ahP_];rfl
 |pan v=>rfl
def akS_(ok:List Ta→Bool)(ans:List Ta→Ans):TCon where
 run args st:=(argsA args st).bnd fun r=>match r with
  |(ts,st1)=>cond (ok ts) (.ok (ansA (ans ts) st1)) (.er "told")
 sym args st K:=agS_ args st fun ts st1=>need (ok ts) (ajm_ (ans ts) st1 K)
 ok args st K h:=by
  obtain⟨ts,st1,h1,h2⟩:=agR_ h
  obtain⟨h3,h4⟩:=ne_ h2
  rw[ajl_]at h4
  exact⟨_,_,by simp only[h1,Rs.bnd,h3,cond_true],h4⟩
theorem acq_(v:Value)(st:ASt)(t:Td)(st':ASt)(h:argT v st= .ok (t,st')):LoS st st'∧ ∀{ρ:Rho} {w:World} {y:Value},VR ρ v y→WR ρ st.h.get w→b6_ ρ st.next st'.next→ ∃ρ',Mv ρ ρ' st.h.get st'.h.get st.next st'.next w w∧TRo w (Frz ρ') t y:=by
 unfold argT at h
 split at h
 ·cases h
  refine⟨LoS.refl _,fun{ρ w y} hv hw hf=> ?_⟩
  cases hv
  exact⟨ρ,Mv.refl hw _,.inl ⟨rfl,rfl,rfl⟩⟩
 ·rename_i b i0 n c
  split at h
  ·rename_i k es lo m g hg
   obtain⟨hc,h⟩:=ck_ h
   cases h
   simp only[Bool.and_eq_true]at hc
   have k1:=Nat.le_of_ble_eq_true hc.1
   have k2:=Nat.le_of_ble_eq_true hc.2
   refine⟨LoS.refl _,fun{ρ w y} hv hw hf=>⟨ρ,Mv.refl hw _,?_⟩⟩
   obtain⟨s,e1,f1,f2,f3,fz,f4⟩:=hw.obj _ _ hg
   cases hv with
   |sliceI _ _ s' _ _ c' o' hsp hnc hcc hro hvd ho=>
    rw[hsp]at e1;cases e1
    rcases Nat.eq_zero_or_pos n with h0|h0
    ·subst h0
     have hc0:c=0:=by
      rcases Nat.eq_zero_or_pos c with h|h
      ·exact h
      ·have:=hcc (by omega);omega
     exact .inr (.inl ⟨rfl,hc0,_,_,rfl⟩)
    ·have ho':o'=s.base+i0*s.es:=by rcases ho with ho|ho;exact ho;omega
     refine .inr (.inr ⟨h0,s.blk,o',c',rfl,hnc,hw.blk _ _ hsp hvd,fun i hi j hj=> ?_⟩)
     obtain⟨z,z1,z2,z3⟩:=f4 (i0+i) (by omega) (by omega) j hj
     refine⟨z,?_,z2,z3⟩
     rw[←z1,ho',f1];congr 2;rw[Nat.add_mul];omega
   |sliceE _ _ c' x s' hsx hex=>exact .inr (.inl ⟨rfl,rfl,_,_,rfl⟩)
   |sliceN=>exact .inl ⟨rfl,rfl,rfl⟩
   |sliceZ=>exact .inr (.inl ⟨rfl,rfl,_,_,rfl⟩)
  ·cases h
 ·rename_i b o n c
  split at h
  ·rename_i cs es hg
   obtain⟨hc,h⟩:=ck_ h
   obtain⟨l,h1,h⟩:=bk_ h
   obtain⟨⟨ts,st1⟩,h2,h⟩:=bk_ h
   cases h
   simp only[Bool.and_eq_true]at hc
   have k2:=Nat.le_of_ble_eq_true hc.2
   have h1:=O9_ h1
   obtain⟨p1,p2⟩:=q5_ h1
   rw[B9_]at p1 p2
   obtain⟨b1,b2⟩:=q4_ (D5_ 4) _ _ _ _ h2
   refine⟨b1,fun{ρ w y} hv hw hf=> ?_⟩
   cases hv with
   |slice _ _ s _ _ c' o' hsp hn hcc hxx hro hoo=>
    obtain⟨f0,C,tt,fr,f3,f6,f7⟩:=Y1_ hg hw hsp
    have hlen:l.length=n*es:=by rw[p2];simp at p1 ⊢;omega
    let l':=(C.toList.drop (s.base+o)).take (n*es)
    have hl': ∀j z,l'[j]? =some z→j<n*es∧C[s.base+o+j]? =some z:=by
     intro j z hz
     simp only[l',List.getElem?_take]at hz
     split at hz
     ·rename_i hj
      simp only[List.getElem?_drop,Array.getElem?_toList]at hz
      exact⟨hj,hz⟩
     ·cases hz
    have hll:l'.length=n*es:=by simp[l'];omega
    have hvl:VRL ρ l l':=by
     refine⟨by rw[hlen,hll],fun j x z hx hz=> ?_⟩
     rw[p2,List.getElem?_take]at hx
     split at hx
     ·rw[List.getElem?_drop]at hx
      obtain⟨z',z1,z2⟩:=f7 _ x hx
      have:=(hl' j z hz).2
      rw[show s.base+o+j=s.base+(o+j)by omega,z1]at this
      cases this;exact z2
     ·cases hx
    obtain⟨ρ1,m1,t1,o1⟩:=b2 hvl hw hf
    refine⟨ρ1,m1,?_⟩
    rcases Nat.eq_zero_or_pos n with h0|h0
    ·subst h0
     exact .inr (.inl ⟨rfl,rfl,_,_,rfl⟩)
    ·have ho':o'=s.base+o:=by rcases hoo with h|h;exact h;omega
     refine .inr (.inr ⟨h0,s.blk,o',c',rfl,by omega,hw.blk _ _ hsp f0,fun i hi j hj=> ?_⟩)
     have hij:i*es+j<n*es:=by
      have:=Nat.mul_le_mul_right es (Nat.succ_le_of_lt hi)
      rw[Nat.succ_mul]at this;omega
     have hz:l'[i*es+j]? =some l'[i*es+j]:=List.getElem?_eq_getElem (by omega)
     obtain⟨_,q2⟩:=hl' _ _ hz
     have htl:i*es+j<ts.length:=by rw[t1.1,hll];exact hij
     have ht:ts[i*es+j]? =some ts[i*es+j]:=List.getElem?_eq_getElem htl
     refine⟨_,?_,o1 _ (List.mem_of_getElem? hz),A9_ n ts i j _ _ hi hj ht (t1.2 _ _ _ ht hz)⟩
     rw[d4_ f3,ho',←q2];congr 1;omega
  ·cases h
 ·obtain⟨hs,h⟩:=ck_ h
  cases h
  refine⟨LoS.refl _,fun{ρ w y} hv hw hf=> ?_⟩
  exact⟨ρ,Mv.refl hw _,(i9_ hs hv).1⟩
theorem agU_: ∀(l:List Value) (st st':ASt) (ts:List Td),toTs argT l st= .ok (ts,st')→
  LoS st st'∧ ∀{ρ:Rho} {w:World} {l':List Value},VRL ρ l l'→WR ρ st.h.get w→b6_ ρ st.next st'.next→ ∃ρ',Mv ρ ρ' st.h.get st'.h.get st.next st'.next w w∧PW (TRo w (Frz ρ')) ts l':=by
 intro l
 induction l with
 |nil=>
  intro st st' ts h
  cases h
  refine⟨LoS.refl _,fun{ρ w l'} hv hw hf=> ?_⟩
  have:=hv.nil_inv
  subst this
  exact⟨ρ,Mv.refl hw _,PW.nil _⟩
 |cons v l ih=>
  intro st st' ts h
  unfold toTs at h
  obtain⟨⟨t,st1⟩,h1,h⟩:=bk_ h
  obtain⟨⟨ts',st2⟩,h2,h⟩:=bk_ h
  cases h
  obtain⟨a1,a2⟩:=acq_ _ _ _ _ h1
  obtain⟨b1,b2⟩:=ih _ _ _ h2
  refine⟨a1.trans b1,fun{ρ w l'} hv hw hf=> ?_⟩
  obtain⟨y,m,rfl,hy,hm⟩:=hv.uncons
  obtain⟨ρ1,m1,t1⟩:=a2 hy hw (hf.left b1.1)
  obtain⟨ρ2,m2,t2⟩:=b2 (hm.mono m1.ext) m1.wr (m1.fresh hf)
  exact⟨ρ2,m1.trans m2,PW.cons (t1.mono (fun b=>Frz.mono m2.ext)) t2⟩
theorem aje_{v:Value}{st st':ASt}{t:Ta}(h:argA v st= .ok (t,st')):LoS st st'∧ ∀{ρ:Rho} {w:World} {y:Value},VR ρ v y→WR ρ st.h.get w→b6_ ρ st.next st'.next→ ∃ρ',Mv ρ ρ' st.h.get st'.h.get st.next st'.next w w∧TaR w (Frz ρ') t y:=by
 unfold argA at h
 split at h
 ·rename_i vs
  obtain⟨⟨ts,st1⟩,h1,h⟩:=bk_ h
  cases h
  obtain⟨b1,b2⟩:=agU_ _ _ _ _ h1
  refine⟨b1,fun{ρ w y} hv hw hf=> ?_⟩
  cases hv with
  |agg a a' ha hh=>
   obtain⟨ρ',m1,t1⟩:=b2 (VRL.of_arrays ha hh) hw hf
   exact⟨ρ',m1,a',rfl,t1⟩
 ·obtain⟨⟨t,st1⟩,h1,h⟩:=bk_ h
  cases h
  exact acq_ _ _ _ _ h1
theorem agQ_: ∀(l:List Value) (st st':ASt) (ts:List Ta),argsA l st= .ok (ts,st')→
  LoS st st'∧ ∀{ρ:Rho} {w:World} {l':List Value},VRL ρ l l'→WR ρ st.h.get w→b6_ ρ st.next st'.next→ ∃ρ',Mv ρ ρ' st.h.get st'.h.get st.next st'.next w w∧PW (TaR w (Frz ρ')) ts l':=by
 intro l
 induction l with
 |nil=>
  intro st st' ts h
  cases h
  refine⟨LoS.refl _,fun{ρ w l'} hv hw hf=> ?_⟩
  have:=hv.nil_inv
  subst this
  exact⟨ρ,Mv.refl hw _,PW.nil _⟩
 |cons v l ih=>
  intro st st' ts h
  unfold argsA at h
  obtain⟨⟨t,st1⟩,h1,h⟩:=bk_ h
  obtain⟨⟨ts',st2⟩,h2,h⟩:=bk_ h
  cases h
  obtain⟨a1,a2⟩:=aje_ h1
  obtain⟨b1,b2⟩:=ih _ _ _ h2
  refine⟨a1.trans b1,fun{ρ w l'} hv hw hf=> ?_⟩
  obtain⟨y,m,rfl,hy,hm⟩:=hv.uncons
  obtain⟨ρ1,m1,t1⟩:=a2 hy hw (hf.left b1.1)
  obtain⟨ρ2,m2,t2⟩:=b2 (hm.mono m1.ext) m1.wr (m1.fresh hf)
  exact⟨ρ2,m1.trans m2,PW.cons (t1.mono (fun b=>Frz.mono m2.ext)) t2⟩
theorem Mv.gain{ρ ρ1:Rho}{g g1:Mem}{n n1:Nat}{w w':World}(M:Mv ρ ρ1 g g1 n n1 w w')(hf:ρ1 n1=none)(o:AObj)(how:o.isOwn=true)(s:Spot)(hz: ∀b,¬s.fz b)(hsv:s.void=false)(h1:w.heap.size≤s.blk)(h2:s.blk<w'.heap.size)(h3: ¬Frz ρ1 s.blk)
  (h4: ∀a oa sa,g1 a=some oa→ρ1 a=some sa→sa.void=false→sa.blk≠s.blk) (ho:ObjR (upd ρ1 n1 (some s)) o s w'):Mv ρ (upd ρ1 n1 (some s)) g (upd g1 n1 (some o)) n (n1+1) w w':=by
 have hsub:Sub ρ1 (upd ρ1 n1 (some s)):=Sub.upd s hf
 have hown: ∀b,Own (upd g1 n1 (some o)) (upd ρ1 n1 (some s)) b→b=s.blk∨Own g1 ρ1 b:=fun b hb=>by
  obtain⟨a,o',s',e1,e0,e2,e4,e3⟩:=hb
  by_cases ha:a=n1
  ·subst ha;rw[a1_]at e2;cases e2;exact .inl e3.symm
  ·rw[a2_ _ _ ha]at e1 e2;exact .inr ⟨a,o',s',e1,e0,e2,e4,e3⟩
 have hn:=M.nx
 refine⟨by omega,M.ext.trans hsub,fun a t e=> ?_,M.size,M.frm,fun b hb=> ?_,M.os,M.tape,M.output,⟨fun a t e hv=> ?_,fun a o' e=> ?_,fun a b oa ob sa sb ea eb eo ra rb va vb heq=> ?_,fun b hb=> ?_⟩,fun a o' e=> ?_,fun a o' e ho'=> ?_,fun b hb=>M.fzn b (hb.upd_no hz)⟩
 ·by_cases ha:a=n1
  ·exact .inr (by omega)
  ·rw[a2_ _ _ ha]at e
   rcases M.new a t e with h|h
   ·exact .inl h
   ·exact .inr (by omega)
 ·rcases hown b hb with rfl|h
  ·exact .inl h1
  ·exact M.own b h
 ·by_cases ha:a=n1
  ·subst ha;rw[a1_]at e;cases e;exact h2
  ·rw[a2_ _ _ ha]at e;exact M.wr.blk a t e hv
 ·by_cases ha:a=n1
  ·subst ha;rw[a1_]at e;cases e;exact⟨s,a1_ _ _ _,ho⟩
  ·rw[a2_ _ _ ha]at e
   obtain⟨s',e1,e2⟩:=M.wr.obj a o' e
   exact⟨s',by rw[a2_ _ _ ha];exact e1,e2.kept hsub (fun _=>rfl) (fun _ _=>rfl)⟩
 ·by_cases ha:a=n1
  ·by_cases hb:b=n1
   ·omega
   ·subst ha;rw[a1_]at ra;cases ra
    rw[a2_ _ _ hb]at rb eb
    exact(h4 b ob sb eb rb vb heq.symm).elim
  ·by_cases hb:b=n1
   ·subst hb;rw[a1_]at rb;cases rb
    rw[a2_ _ _ ha]at ra ea
    exact(h4 a oa sa ea ra va heq).elim
   ·rw[a2_ _ _ ha]at ra ea;rw[a2_ _ _ hb]at rb eb
    exact M.wr.inj a b oa ob sa sb ea eb eo ra rb va vb heq
 ·have hb1:=hb.upd_no hz
  refine⟨(M.wr.fz b hb1).1,fun h=> ?_⟩
  rcases hown b h with rfl|h
  ·exact h3 hb1
  ·exact(M.wr.fz b hb1).2 h
 ·by_cases ha:a=n1
  ·exact .inr (by omega)
  ·rw[a2_ _ _ ha]at e
   rcases M.dom a o' e with h|h
   ·exact .inl h
   ·exact .inr (by omega)
 ·by_cases ha:a=n1
  ·subst ha;rw[a1_]at e;cases e;rw[how]at ho';cases ho'
  ·rw[a2_ _ _ ha]at e
   rcases M.ro a o' e ho' with h|h
   ·exact .inl h
   ·refine .inr fun t ht hv=> ?_
    rw[a2_ _ _ ha]at ht
    exact(h t ht hv).mono hsub
structure Had (F:Nat→Prop) (ρ ρ1:Rho) (g g1:Mem) (n n1:Nat) (w w':World) (l:List Nat):Prop where
 mv:Mv ρ ρ1 g g1 n n1 w w'
 fz: ∀b,F b→Frz ρ1 b
 fzi: ∀b,Frz ρ1 b→b<w.heap.size∨F b
 at_: ∀a oa sa,g1 a=some oa→ρ1 a=some sa→sa.void=false→sa.blk<w.heap.size∨Frz ρ1 sa.blk∨sa.blk∈l
theorem afa_{F:Nat→Prop}{ρ ρ1:Rho}{g:Mem}{st:ASt}{n:Nat}{w w':World}{l l1:List Nat}{r:Ra}{y:Value}(H:Had F ρ ρ1 g st.h.get n st.next w w' l)(hr:RaR w w' F r y l1)(hnd:(l++l1).Nodup)(hf:b6_ ρ1 st.next (raA r st).2.next):
  ∃ρ2,Had F ρ ρ2 g (raA r st).2.h.get n (raA r st).2.next w w' (l++l1)∧VR ρ2 (raA r st).1 y∧Sub ρ1 ρ2∧(∀N,b6_ ρ1 st.next N→b6_ ρ2 (raA r st).2.next N):=by
 have hfr: ∀(s:Spot) N,b6_ ρ1 st.next N→b6_ (upd ρ1 st.next (some s)) (st.next+1) N:=fun s N h a h1 h2=>by rw[a2_ _ _ (by omega)];exact h a (by omega) h2
 have hgn: ∀o,(st.new o).h.get=upd st.h.get st.next (some o):=fun o=>by simp[ASt.new,b0_]
 cases r with
 |sc x=>
  obtain⟨rfl,hv⟩:=hr
  rw[List.append_nil]
  exact⟨ρ1,H,hv.mono (o9_ _),Sub.refl _,fun N h=>h⟩
 |still es n0 c e=>
  obtain⟨rfl,ht⟩:=hr
  rw[List.append_nil]
  have hfn:ρ1 st.next=none:=hf _ (Nat.le_refl _) (Nat.lt_succ_self _)
  have ht':TR w' (Frz ρ1) (.fr es n0 c e) y:=ht.kept H.fz (fun _ _=>rfl)
  obtain⟨ρ2,m1,v1⟩:=abS_ (k:=st.next) ht' H.mv.wr hfn
  refine⟨ρ2,⟨by show Mv ρ ρ2 g (st.new _).h.get n (st.next+1) w w';rw[hgn];exact H.mv.trans m1,fun b hb=>(H.fz b hb).mono m1.ext,fun b hb=> ?_,fun a oa sa ea ra va=> ?_⟩,v1,m1.ext,fun N h=>m1.fresh h⟩
  ·rcases m1.fzn b hb with h1|h1|h1
   ·exact H.fzi b h1
   ·have:=(m1.wr.fz b hb).1;omega
   ·have:=(m1.wr.fz b hb).2
    obtain⟨a,o,s,q1,q2,q3,q4⟩:=h1
    have hne:a≠st.next:=fun e=>by subst e;rw[hfn]at q3;cases q3
    exact(this ⟨a,o,s,by rw[a2_ _ _ hne];exact q1,q2,m1.ext a s q3,q4⟩).elim
  ·have ea:upd st.h.get st.next (some (.row .still es 0 n0 e)) a=some oa:=by rw[←hgn];exact ea
   by_cases ha:a=st.next
   ·subst ha
    rw[a1_]at ea;cases ea
    obtain⟨s',q1,_,_,_,q2,_⟩:=m1.wr.obj st.next _ (a1_ _ _ _)
    rw[ra]at q1;cases q1
    exact .inr (.inl (q2 rfl va))
   ·rw[a2_ _ _ ha]at ea
    obtain⟨s',q1,_⟩:=H.mv.wr.obj a oa ea
    have hq:s'=sa:=Option.some.inj ((m1.ext a s' q1).symm.trans ra)
    subst hq
    rcases H.at_ a oa s' ea q1 va with h|h|h
    ·exact .inl h
    ·exact .inr (.inl (h.mono m1.ext))
    ·exact .inr (.inr h)
 |own es n0 c e=>
  have hfn:ρ1 st.next=none:=hf _ (Nat.le_refl _) (Nat.lt_succ_self _)
  rcases hr with⟨rfl,rfl,hy⟩|⟨b,o,c',C,t,fr,rfl,rfl,h1,h2,h3,h4,h5,h6,h7,h8⟩
  ·rw[List.append_nil]
   have m1:Mv ρ1 (upd ρ1 st.next (some ⟨0,0,false,es,0,true,nofz⟩)) st.h.get (upd st.h.get st.next (some (.row .mine es 0 0 e))) st.next (st.next+1) w' w':=Mv.rowVoid H.mv.wr hfn rfl rfl rfl rfl
   refine⟨_,⟨by show Mv ρ _ g (st.new _).h.get n (st.next+1) w w';rw[hgn];exact H.mv.trans m1,fun b hb=>(H.fz b hb).mono m1.ext,fun b hb=>H.fzi b (hb.upd_no fun _ h=>h),fun a oa sa ea ra va=> ?_⟩,?_,m1.ext,fun N h=>m1.fresh h⟩
   ·have ea:upd st.h.get st.next (some (.row .mine es 0 0 e)) a=some oa:=by rw[←hgn];exact ea
    by_cases ha:a=st.next
    ·subst ha;rw[a1_]at ra;cases ra;cases va
    ·rw[a2_ _ _ ha]at ea ra
     rcases H.at_ a oa sa ea ra va with h|h|h
     ·exact .inl h
     ·exact .inr (.inl (h.mono m1.ext))
     ·exact .inr (.inr h)
   ·rcases hy with⟨rfl,rfl⟩|⟨rfl,a,rfl⟩
    ·exact .sliceN _ _
    ·exact .sliceZ _ _ _
  ·have hbl:b∉l:=fun hb=>by
    have:=List.nodup_append.1 hnd
    exact this.2.2 b hb b (by simp) rfl
   have hsub:Sub ρ1 (upd ρ1 st.next (some ⟨b,o,false,es,C.size,false,nofz⟩)):=Sub.upd _ hfn
   have hnf: ¬Frz ρ1 b:=fun h=>by
    rcases H.fzi b h with h|h
    ·omega
    ·exact h7 h
   have hlt:b<w'.heap.size:=(Array.getElem?_eq_some_iff.1 h4).1
   have hmul:n0*es≤c'*es:=Nat.mul_le_mul_right _ h1
   refine⟨upd ρ1 st.next (some ⟨b,o,false,es,C.size,false,nofz⟩),⟨?_,fun b hb=>(H.fz b hb).mono hsub,fun b hb=>H.fzi b (hb.upd_no fun _ h=>h),fun a oa sa ea ra va=> ?_⟩,?_,hsub,hfr _⟩
   ·show Mv ρ _ g (st.new _).h.get n (st.next+1) w w'
    rw[hgn]
    refine Mv.gain H.mv hfn _ rfl ⟨b,o,false,es,C.size,false,nofz⟩ (fun _ h=>h) rfl h3 hlt hnf (fun a oa sa ea ra va heq=> ?_) ⟨rfl,(fun h=>by cases h),fun _=>⟨rfl,rfl,fun _=>⟨C,t,fr,h4,rfl,h5,by show o+n0*es≤C.size;omega⟩⟩,(fun h=>by cases h),fun i _ hi j hj=> ?_⟩
    ·have heq:sa.blk=b:=heq
     rcases H.at_ a oa sa ea ra va with h|h|h
     ·omega
     ·rw[heq]at h;exact hnf h
     ·rw[heq]at h;exact hbl h
    ·obtain⟨z,z1,z2,z3⟩:=h8 i hi j hj
     refine⟨z,?_,z2,z3.kept (fun b hb=>(H.fz b hb).mono hsub) (fun _ _=>rfl)⟩
     rw[d4_ h4];exact z1
   ·have ea:upd st.h.get st.next (some (.row .mine es 0 n0 e)) a=some oa:=by rw[←hgn];exact ea
    by_cases ha:a=st.next
    ·subst ha;rw[a1_]at ra;cases ra;exact .inr (.inr (by simp))
    ·rw[a2_ _ _ ha]at ea ra
     rcases H.at_ a oa sa ea ra va with h|h|h
     ·exact .inl h
     ·exact .inr (.inl (h.mono hsub))
     ·exact .inr (.inr (List.mem_append_left _ h))
   ·exact .sliceI st.next 0 ⟨b,o,false,es,C.size,false,nofz⟩ _ _ c' o (a1_ _ _ _) h1 h2 (fun _=>h6) rfl (.inl (by simp))
theorem aic_{F:Nat→Prop}{ρ:Rho}{g:Mem}{n:Nat}{w w':World}: ∀(rs:List Ra) (ys:List Value) (l l1:List Nat) (ρ1:Rho) (st:ASt),Had F ρ ρ1 g st.h.get n st.next w w' l→RasR w w' F rs ys l1→(l++l1).Nodup→b6_ ρ1 st.next (rasA rs st).2.next→
  ∃ρ2,Had F ρ ρ2 g (rasA rs st).2.h.get n (rasA rs st).2.next w w' (l++l1)∧VRL ρ2 (rasA rs st).1 ys∧Sub ρ1 ρ2∧(∀N,b6_ ρ1 st.next N→b6_ ρ2 (rasA rs st).2.next N):=by
 intro rs
 induction rs with
 |nil=>
  intro ys l l1 ρ1 st H hr hnd hf
  cases ys with
  |nil=>
   have:l1=[]:=hr
   subst this
   rw[List.append_nil]
   exact⟨ρ1,H,VRL.nil _,Sub.refl _,fun N h=>h⟩
  |cons=>exact hr.elim
 |cons r rs ih=>
  intro ys l l1 ρ1 st H hr hnd hf
  cases ys with
  |nil=>exact hr.elim
  |cons y ys=>
   obtain⟨a1,a2,rfl,k1,k2⟩:=hr
   have hle:(raA r st).2.next≤(rasA (r::rs) st).2.next:=by
    have: ∀(l:List Ra) (s:ASt),s.next≤(rasA l s).2.next:=by
     intro l
     induction l with
     |nil=>intro s;exact Nat.le_refl _
     |cons q l ihl=>
      intro s
      have h1:s.next≤(raA q s).2.next:=by cases q<;>simp[raA,ASt.new]
      exact Nat.le_trans h1 (ihl _)
    exact this rs _
   rw[←List.append_assoc]at hnd
   obtain⟨ρ2,H2,v2,s2,f2⟩:=afa_ H k1 (List.nodup_append.1 hnd).1 (hf.left hle)
   obtain⟨ρ3,H3,v3,s3,f3⟩:=ih ys (l++a1) a2 ρ2 (raA r st).2 H2 k2 hnd (f2 _ hf)
   rw[List.append_assoc]at H3
   exact⟨ρ3,H3,VRL.cons (v2.mono s3) v3,s2.trans s3,fun N h=>f3 N (f2 N h)⟩
theorem abD_(r:Ra)(st:ASt):st.next≤(raA r st).2.next∧LoS st (raA r st).2:=by
 cases r with
 |sc x=>exact⟨Nat.le_refl _,LoS.refl _⟩
 |own=>exact⟨Nat.le_succ _,LoS.new _ _⟩
 |still=>exact⟨Nat.le_succ _,LoS.new _ _⟩
theorem aeZ_: ∀(l:List Ra) (s:ASt),s.next≤(rasA l s).2.next∧LoS s (rasA l s).2:=by
 intro l
 induction l with
 |nil=>intro s;exact⟨Nat.le_refl _,LoS.refl _⟩
 |cons q l ihl=>
  intro s
  obtain⟨h1,h2⟩:=abD_ q s
  obtain⟨h3,h4⟩:=ihl (raA q s).2
  exact⟨Nat.le_trans h1 h3,h2.trans h4⟩
theorem abz_(r:Rv)(st:ASt):st.next≤(rvA r st).2.next∧LoS st (rvA r st).2:=by
 cases r with
 |cell r=>exact abD_ r st
 |agg rs=>exact aeZ_ rs st
theorem T6_: ∀(l:List Rv) (s:ASt),s.next≤(rvsA l s).2.next∧LoS s (rvsA l s).2:=by
 intro l
 induction l with
 |nil=>intro s;exact⟨Nat.le_refl _,LoS.refl _⟩
 |cons q l ihl=>
  intro s
  obtain⟨h1,h2⟩:=abz_ q s
  obtain⟨h3,h4⟩:=ihl (rvA q s).2
  exact⟨Nat.le_trans h1 h3,h2.trans h4⟩
theorem aeK_{F:Nat→Prop}{ρ ρ1:Rho}{g:Mem}{st:ASt}{n:Nat}{w w':World}{l l1:List Nat}{r:Rv}{y:Value}(H:Had F ρ ρ1 g st.h.get n st.next w w' l)(hr:RvR w w' F r y l1)(hnd:(l++l1).Nodup)(hf:b6_ ρ1 st.next (rvA r st).2.next):
  ∃ρ2,Had F ρ ρ2 g (rvA r st).2.h.get n (rvA r st).2.next w w' (l++l1)∧VR ρ2 (rvA r st).1 y∧Sub ρ1 ρ2∧(∀N,b6_ ρ1 st.next N→b6_ ρ2 (rvA r st).2.next N):=by
 cases r with
 |cell r=>exact afa_ H hr hnd hf
 |agg rs=>
  obtain⟨a,rfl,h⟩:=hr
  obtain⟨ρ2,H2,v2,s2,f2⟩:=aic_ rs _ l l1 ρ1 st H h hnd hf
  have hv:=VR.agg' v2
  exact⟨ρ2,H2,hv,s2,f2⟩
theorem ahO_{F:Nat→Prop}{ρ:Rho}{g:Mem}{n:Nat}{w w':World}: ∀(rs:List Rv) (ys:List Value) (l l1:List Nat) (ρ1:Rho) (st:ASt),Had F ρ ρ1 g st.h.get n st.next w w' l→RvsR w w' F rs ys l1→(l++l1).Nodup→b6_ ρ1 st.next (rvsA rs st).2.next→
  ∃ρ2,Had F ρ ρ2 g (rvsA rs st).2.h.get n (rvsA rs st).2.next w w' (l++l1)∧VRL ρ2 (rvsA rs st).1 ys∧Sub ρ1 ρ2∧(∀N,b6_ ρ1 st.next N→b6_ ρ2 (rvsA rs st).2.next N):=by
 intro rs
 induction rs with
 |nil=>
  intro ys l l1 ρ1 st H hr hnd hf
  cases ys with
  |nil=>
   have:l1=[]:=hr
   subst this
   rw[List.append_nil]
   exact⟨ρ1,H,VRL.nil _,Sub.refl _,fun N h=>h⟩
  |cons=>exact hr.elim
 |cons r rs ih=>
  intro ys l l1 ρ1 st H hr hnd hf
  cases ys with
  |nil=>exact hr.elim
  |cons y ys=>
   obtain⟨a1,a2,rfl,k1,k2⟩:=hr
   have hle:(rvA r st).2.next≤(rvsA (r::rs) st).2.next:=(T6_ rs _).1
   rw[←List.append_assoc]at hnd
   obtain⟨ρ2,H2,v2,s2,f2⟩:=aeK_ H k1 (List.nodup_append.1 hnd).1 (hf.left hle)
   obtain⟨ρ3,H3,v3,s3,f3⟩:=ih ys (l++a1) a2 ρ2 (rvA r st).2 H2 k2 hnd (f2 _ hf)
   rw[List.append_assoc]at H3
   exact⟨ρ3,H3,VRL.cons (v2.mono s3) v3,s2.trans s3,fun N h=>f3 N (f2 N h)⟩
theorem Mv.markF{ρ:Rho}{g:Mem}{w w':World}{n:Nat}(h:WR ρ g w)(hf:ρ n=none)(hb:Below w.heap.size w w')(F:Nat→Prop)(hF: ∀b,F b→(w.heap.size≤b∧b<w'.heap.size)∨Frz ρ b):Mv ρ (upd ρ n (some ⟨0,0,true,0,0,true,F⟩)) g g n (n+1) w w':=by
 have hsub:Sub ρ (upd ρ n (some ⟨0,0,true,0,0,true,F⟩)):=Sub.upd _ hf
 have hM:=Mv.below h n hb
 have hgn: ∀a o,g a=some o→a≠n:=fun a o e he=>by
  subst he
  obtain⟨s',e1,_⟩:=h.obj a o e
  rw[hf]at e1;cases e1
 have hown: ∀b,Own g (upd ρ n (some ⟨0,0,true,0,0,true,F⟩)) b→Own g ρ b:=fun b ⟨a,o,s',e1,e0,e2,e3⟩=>⟨a,o,s',e1,e0,by rw[a2_ _ _ (hgn a o e1)]at e2;exact e2,e3⟩
 refine⟨by omega,hsub,fun a t e=> ?_,hM.size,hM.frm,fun b hb=> .inr (hown b hb),hM.os,hM.tape,hM.output,⟨fun a t e hv=> ?_,fun a o e=> ?_,fun a b oa ob sa sb ea eb eo ra rb=> ?_,fun b hb=> ?_⟩,fun a o e=> .inl ⟨o,e⟩,fun a o e _=> .inl e,fun b hb=> ?_⟩
 ·by_cases ha:a=n
  ·exact .inr (by omega)
  ·rw[a2_ _ _ ha]at e;exact .inl e
 ·by_cases ha:a=n
  ·subst ha;rw[a1_]at e;cases e;cases hv
  ·rw[a2_ _ _ ha]at e;exact hM.wr.blk a t e hv
 ·obtain⟨s',e1,e2⟩:=hM.wr.obj a o e
  exact⟨s',by rw[a2_ _ _ (hgn a o e)];exact e1,e2.kept hsub (fun _=>rfl) (fun _ _=>rfl)⟩
 ·rw[a2_ _ _ (hgn a oa ea)]at ra
  rw[a2_ _ _ (hgn b ob eb)]at rb
  exact hM.wr.inj a b oa ob sa sb ea eb eo ra rb
 ·have old: ∀b,Own g ρ b→b<w.heap.size:=fun b ⟨a,o,s,e1,e0,e2,e3,e4⟩=>by have:=h.blk a s e2 e3;omega
  rcases hb.upd_inv with h1|h1
  ·exact⟨(hM.wr.fz b h1).1,fun h2=>(hM.wr.fz b h1).2 (hown b h2)⟩
  ·rcases hF b h1 with h2|h2
   ·exact⟨h2.2,fun h3=>by have:=old b (hown b h3);omega⟩
   ·exact⟨(hM.wr.fz b h2).1,fun h3=>(hM.wr.fz b h2).2 (hown b h3)⟩
 ·rcases hb.upd_inv with h1|h1
  ·exact .inl h1
  ·rcases hF b h1 with h2|h2
   ·exact .inr (.inl h2.1)
   ·exact .inl h2
theorem aey_(st:ASt):LoS st st.skip:=LoS.skip st st.lo (Nat.le_refl _)
theorem adX_{P:Program}{g:FuncId}{ok:List Ta→Bool}{ans:List Ta→Ans}(h:c5_ P g ok ans): ∀args st r st',Wf st→(akS_ ok ans).run args st= .ok (r,st')→LoS st st'∧ ∀ρ w (args':Array Value),VRL ρ args args'.toList→WR ρ st.h.get w→b6_ ρ st.next st'.next→
  Calls P g args' w fun e w'=> ∃ρ',EndR ρ' r e∧Mv ρ ρ' st.h.get st'.h.get st.next st'.next w w':=by
 intro args st r st' hwf hr
 simp only[akS_]at hr
 obtain⟨⟨ts,st1⟩,h1,hr⟩:=bk_ hr
 obtain⟨hok,hr⟩:=ck_ hr
 obtain⟨a1,a2⟩:=agQ_ _ _ _ _ h1
 have hr:ansA (ans ts) st1=(r,st'):=Rs.ok.inj hr
 have hlo:LoS st1.skip st':=by
  have:st'=(ansA (ans ts) st1).2:=by rw[hr]
  rw[this]
  cases ans ts with
  |ret r=>exact(abz_ r _).2
  |rets rs=>exact(T6_ rs _).2
  |pan v=>exact LoS.refl _
 refine⟨a1.trans ((aey_ st1).trans hlo),fun ρ w args' hv hw hfr=> ?_⟩
 have hn1:st1.next+1≤st'.next:=hlo.1
 obtain⟨ρ1,m1,t1⟩:=a2 hv hw (hfr.left (by omega))
 have hf1:=m1.fresh hfr
 refine(h ts hok w args' (Frz ρ1) (fun b hb=>(m1.wr.fz b hb).1) t1).mono fun e w' he=> ?_
 obtain⟨hbel,F',hF',he⟩:=he
 have mk:=Mv.markF (n:=st1.next) m1.wr (hf1 _ (Nat.le_refl _) (by omega)) hbel F' hF'
 have H:Had F' ρ1 (upd ρ1 st1.next (some ⟨0,0,true,0,0,true,F'⟩)) st1.h.get st1.skip.h.get st1.next st1.skip.next w w' []:=⟨mk,fun b hb=>⟨st1.next,_,a1_ _ _ _,hb⟩,fun b hb=>by
   rcases hb.upd_inv with h1|h1
   ·exact .inl (m1.wr.fz b h1).1
   ·exact .inr h1,fun a oa sa ea ra va=> .inl (by
   have hne:a≠st1.next:=fun he=>by
    subst he
    obtain⟨s',e1,_⟩:=m1.wr.obj _ oa ea
    rw[hf1 _ (Nat.le_refl _) (by omega)]at e1;cases e1
   rw[a2_ _ _ hne]at ra
   exact m1.wr.blk a sa ra va)⟩
 have hf2: ∀N,b6_ ρ1 st1.next N→b6_ (upd ρ1 st1.next (some ⟨0,0,true,0,0,true,F'⟩)) st1.skip.next N:=fun N h a k1 k2=>by
  have k1:st1.next+1≤a:=k1
  rw[a2_ _ _ (by omega)];exact h a (by omega) k2
 have hf3:=hf2 _ hf1
 cases ha:ans ts with
 |ret q=>
  rw[ha]at he hr
  obtain⟨y,l,rfl,k1,k2⟩:=he
  have hr1:r= .returned (rvA q st1.skip).1:=by have:=congrArg Prod.fst hr;exact this.symm
  have hr2:st'=(rvA q st1.skip).2:=by have:=congrArg Prod.snd hr;exact this.symm
  subst hr1 hr2
  obtain⟨ρ2,H2,v2,_,_⟩:=aeK_ H k1 (by simpa using k2) hf3
  exact⟨ρ2,⟨y,rfl,v2⟩,m1.trans H2.mv⟩
 |rets qs=>
  rw[ha]at he hr
  obtain⟨a,l,rfl,k1,k2⟩:=he
  have hr1:r= .returned (.tuple (rvsA qs st1.skip).1.toArray):=by have:=congrArg Prod.fst hr;exact this.symm
  have hr2:st'=(rvsA qs st1.skip).2:=by have:=congrArg Prod.snd hr;exact this.symm
  subst hr1 hr2
  obtain⟨ρ2,H2,v2,_,_⟩:=ahO_ qs _ [] l _ _ H k1 (by simpa using k2) hf3
  exact⟨ρ2,⟨_,rfl,by have:=VR.tuple' v2;simpa using this⟩,m1.trans H2.mv⟩
 |pan v=>
  rw[ha]at he hr
  obtain⟨v',rfl,k1⟩:=he
  have hr1:r= .panicked v:=by have:=congrArg Prod.fst hr;exact this.symm
  have hr2:st'=st1.skip:=by have:=congrArg Prod.snd hr;exact this.symm
  subst hr1 hr2
  exact⟨_,⟨v',rfl,k1.mono (o9_ _)⟩,m1.trans mk⟩
def Told.tree(C:Told)(g:FuncId)(ok:List Ta→Bool)(ans:List Ta→Ans):Told:=fun f=>cond (Nat.beq f g) (some (akS_ ok ans)) (C f)
theorem Told.tree_ok{P:Program}{C:Told}{g:FuncId}{ok:List Ta→Bool}{ans:List Ta→Ans}(hC:a8_ P C)(h:c5_ P g ok ans):a8_ P (C.tree g ok ans):=by
 intro f d hd args st r st' hwf hr
 unfold Told.tree at hd
 cases hb:Nat.beq f g with
 |false=>rw[hb]at hd;exact hC f d hd args st r st' hwf hr
 |true=>
  rw[hb]at hd
  have:=Nat.eq_of_beq_eq_true hb
  subst this
  simp only[cond_true,Option.some.injEq]at hd
  subst hd
  exact adX_ h args st r st' hwf hr
end Go.Proofs.YtachglcffimmeaaGreat.Ev
