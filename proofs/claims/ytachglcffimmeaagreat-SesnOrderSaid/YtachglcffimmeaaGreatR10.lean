/-
  What the evaluator says of functions holds of every run; the answer of a closed call.
-/
import Derived.Test.YtachglcffimmeaaGreatR9
set_option linter.unusedVariables false
set_option linter.unusedSimpArgs false
namespace Go.Proofs.YtachglcffimmeaaGreat.Ev
open Go
theorem agT_: ∀(l:List Value) (i:Nat) (t:Tr Value) (k:Nat),(s9_ l i t).get k=if i≤k∧k<i+l.length then l[k-i]? else t.get k:=by
 intro l
 induction l with
 |nil=>intro i t k;rw[if_neg (by simp)];rfl
 |cons v l ih=>
  intro i t k
  simp only[s9_,ih,b0_]
  by_cases hk:k=i
  ·subst hk
   rw[if_neg (by omega),a1_,if_pos (by simp)]
   simp
  ·rw[a2_ _ _ hk]
   by_cases h2:i+1≤k∧k<i+1+l.length
   ·rw[if_pos h2,if_pos (by simp;omega),show k-i=(k-(i+1))+1 by omega]
    simp
   ·rw[if_neg h2,if_neg (by simp;omega)]
theorem alY_(a b:Nat):maxN a b=max a b:=by
 unfold maxN
 rcases Bool.eq_false_or_eq_true (Nat.ble a b)with h|h
 ·rw[h];have:=r9_ h;simp only[cond_true];omega
 ·rw[h]
  have: ¬a≤b:=fun h2=>by rw[Nat.ble_eq_true_of_le h2]at h;cases h
  simp only[cond_false];omega
theorem j3_{ρ:Rho}{args:List Value}{args':Array Value}(n:Nat)(h:VRL ρ args args'.toList):FrR ρ ⟨maxN args.length n,s9_ args 0 .leaf,[]⟩ {tmps:=args'++Array.replicate (n-args'.size) undef,defers:=[]}:=by
 have hl:args.length=args'.size:=by have:=h.1;simpa using this
 refine⟨by rw[alY_];simp;omega,fun t v e=> ?_,trivial⟩
 simp only[agT_,Nat.sub_zero,Nat.zero_add]at e
 split at e
 ·rename_i ht
  obtain⟨y,hy,hv⟩:=h.get e
  refine⟨y,?_,hv⟩
  simp only
  rw[Array.getElem?_append_left (by omega)]
  simpa using hy
 ·cases e
def resS(tmps:Array Value):ResultVar→Sem Value
 | .tmp t=>pure (tmps.getD t undef)
 | .cell a t=>(asAddr (tmps.getD a undef)).bind fun x=>loadVar t x
theorem acL_(fn:Func)(tmps:Array Value):results fn tmps=((fn.results.mapM (resS tmps)).bind fun vs=>pure (if h:vs.size=1 then vs[0]else .tuple vs)):=by
 unfold results
 have:(fun(x:ResultVar)=>(match x with
   | .tmp t=>pure (tmps.getD t undef)
   | .cell a t=>do loadVar t (←asAddr (tmps.getD a undef)):Sem Value))=resS tmps:=by
  funext x
  cases x<;>rfl
 rw[←this]
 rfl
theorem ahU_{P:Program}{ρ:Rho}{f:AFr}{st:ASt}{tmps:Array Value}{w:World}(hf:FrR ρ ⟨f.n,f.tmps,[]⟩ ⟨tmps,[]⟩)(hw:WR ρ st.h.get w): ∀{l:List ResultVar} {vs:List Value},resL P st f l= .ok vs→
  ∃vs',(l.mapM (resS tmps)).run P w= .ok vs' w∧VRL ρ vs vs':=by
 intro l
 have hev: ∀t,VR ρ (f.tmp t) (tmps.getD t undef):=fun t=>hf.ev (.tmp t)
 induction l with
 |nil=>intro vs h;cases h;exact⟨[],rfl,VRL.nil ρ⟩
 |cons x l ih=>
  intro vs h
  cases x with
  |tmp t=>
   simp only[resL]at h
   obtain⟨r,h1,h2⟩:=bk_ h
   cases h2
   obtain⟨vs',e1,e2⟩:=ih h1
   refine⟨tmps.getD t undef::vs',?_,VRL.cons (hev t) e2⟩
   have e0:(resS tmps (.tmp t)).run P w= .ok (tmps.getD t undef) w:=rfl
   simp only[List.mapM_cons,Sem.run_bind,Sem.run_pure,Result.andThen_ok,e0,e1]
  |cell x t=>
   simp only[resL]at h
   split at h
   ·rename_i a0 hx
    obtain⟨n,h1,h2⟩:=bk_ h
    obtain⟨cs,h3,h4⟩:=bk_ h2
    obtain⟨v,h5,h6⟩:=bk_ h4
    obtain⟨r,h7,h8⟩:=bk_ h6
    cases h8
    obtain⟨vs',e1,e2⟩:=ih h7
    have hX:=hev x
    rw[hx]at hX
    obtain⟨s,g2,g3⟩:=hX.ptr_loc
    obtain⟨l',r1,r2,r3⟩:=o2_ h3 hw g2
    have main: ∃y,(loadVar t ⟨s.blk,j8_ s a0,none⟩).run P w= .ok y w∧VR ρ v y:=by
     rcases shutL_run h5 with⟨k8,rfl⟩|⟨k8,rfl⟩
     ·refine⟨.agg l'.toArray,?_,VR.agg' r1⟩
      have:=run_loadCells_list (P:=P) (w:=w) ⟨s.blk,j8_ s a0,none⟩ l' r3
      rw[r2]at this
      simp[loadVar,q7_ k8,a3_ h1,this]
     ·obtain⟨y,m,rfl,hy,hm⟩:=r1.uncons
      refine⟨y,?_,hy⟩
      have:=r3 0 y (by simp)
      simp only[e5_,Nat.add_zero]at this
      simp[loadVar,q7_ k8,this]
    obtain⟨y,m1,m2⟩:=main
    refine⟨y::vs',?_,VRL.cons m2 e2⟩
    have e0:(resS tmps (.cell x t)).run P w= .ok y w:=by
     show((asAddr (tmps.getD x undef)).bind fun z=>loadVar t z).run P w=_
     rw[g3]
     exact m1
    simp only[List.mapM_cons,Sem.run_bind,Sem.run_pure,Result.andThen_ok,e0,e1]
   ·cases h
theorem E4_{P:Program}{ρ:Rho}{fn:Func}{f:AFr}{st:ASt}{tmps:Array Value}{w:World}{v:Value}(hf:FrR ρ ⟨f.n,f.tmps,[]⟩ ⟨tmps,[]⟩)(hw:WR ρ st.h.get w)(h:u0_ P fn st f= .ok v):
  ∃v',(results fn tmps).run P w= .ok v' w∧VR ρ v v':=by
 unfold u0_ at h
 obtain⟨vs,h1,h2⟩:=bk_ h
 obtain⟨vs',e1,e2⟩:=ahU_ hf hw h1
 have hrun:(results fn tmps).run P w= .ok (if h:vs'.toArray.size=1 then vs'.toArray[0]else .tuple vs'.toArray) w:=by
  rw[acL_,Array.mapM_eq_mapM_toList]
  show(((List.toArray<$>fn.results.toList.mapM (resS tmps))>>=fun vs=>pure (if h:vs.size=1 then vs[0]else .tuple vs):Sem Value)).run P w=_
  simp only[Sem.run_bind,Sem.run_map,e1,Result.andThen_ok,Sem.run_pure]
 split at h2
 ·cases h2
  obtain⟨y,m,rfl,hy,hm⟩:=e2.uncons
  have:=hm.nil_inv
  subst this
  exact⟨y,by rw[hrun];rfl,hy⟩
 ·rename_i hne
  cases h2
  refine⟨.tuple vs'.toArray,?_,VR.tuple' e2⟩
  rw[hrun,dif_neg]
  intro h1
  have hl:vs.length=1:=by rw[e2.1];simpa using h1
  match vs,hl with
  |[x],_=>exact hne x rfl
def A2_(ρ:Rho):Option Value→FrameMode→Prop
 |none,u=>u= .returning
 |some v,u=> ∃v',u= .panicking [{v:=v',recovered:=false}]∧VR ρ v v'
theorem A2_.mono{ρ ρ':Rho}(hs:Sub ρ ρ'){p:Option Value}{u:FrameMode}(h:A2_ ρ p u):A2_ ρ' p u:=by
 cases p with
 |none=>exact h
 |some v=>obtain⟨v',h1,h2⟩:=h;exact⟨v',h1,h2.mono hs⟩
theorem A2_.settle{ρ:Rho}{p:Option Value}{u:FrameMode}(h:A2_ ρ p u):A2_ ρ p (settle u)∧u≠ .run:=by
 cases p with
 |none=>cases h;exact⟨rfl,by simp⟩
 |some v=>obtain⟨v',rfl,h2⟩:=h;exact⟨⟨v',rfl,h2⟩,by simp⟩
def aoU_(P:Program)(selfD:FuncId→List Value→Option Value→ASt→Rs (Option Value×ASt)):Prop:= ∀g args p st p' st',Wf st→selfD g args p st= .ok (p',st')→LoS st st'∧ ∀ρ w (args':Array Value) u,VRL ρ args args'.toList→WR ρ st.h.get w→b6_ ρ st.next st'.next→A2_ ρ p u→
 CallsD P g args' u w fun e u' w'=> ∃ρ',(∃v,e= .returned v)∧A2_ ρ' p' (settle u')∧Mv ρ ρ' st.h.get st'.h.get st.next st'.next w w'
theorem s5_{P:Program}{selfD:FuncId→List Value→Option Value→ASt→Rs (Option Value×ASt)}(hsd:aoU_ P selfD){fn:Func}{f:AFr}: ∀(ds:List ADef) (p:Option Value) (st:ASt) (r:AE) (st':ASt),Wf st→x3_ P selfD fn f ds p st= .ok (r,st')→
  LoS st st'∧ ∀(R:Ending→World→Prop) ρ w (tmps:Array Value) ds' u,y3_ ρ ds ds'→FrR ρ ⟨f.n,f.tmps,[]⟩ ⟨tmps,[]⟩→WR ρ st.h.get w→b6_ ρ st.next st'.next→A2_ ρ p u→
   (∀ρ' e w',EndR ρ' r e→Mv ρ ρ' st.h.get st'.h.get st.next st'.next w w'→R e w')→Leaves P fn tmps R ds' u w:=by
 intro ds
 induction ds with
 |nil=>
  intro p st r st' hwf h
  cases p with
  |none=>
   simp only[x3_]at h
   obtain⟨v,h1,h2⟩:=bk_ h
   cases h2
   refine⟨LoS.refl _,fun R ρ w tmps ds' u hd hf hw _ hm hR=> ?_⟩
   cases ds' with
   |cons=>exact hd.elim
   |nil=>
    cases hm
    obtain⟨v',k1,k2⟩:=E4_ hf hw h1
    exact⟨v',k1,hR ρ _ w ⟨v',rfl,k2⟩ (Mv.refl hw _)⟩
  |some v=>
   simp only[x3_]at h
   cases h
   refine⟨LoS.refl _,fun R ρ w tmps ds' u hd hf hw _ hm hR=> ?_⟩
   cases ds' with
   |cons=>exact hd.elim
   |nil=>
    obtain⟨v',rfl,k2⟩:=hm
    exact hR ρ _ w ⟨v',rfl,k2⟩ (Mv.refl hw _)
 |cons d ds ih=>
  intro p st r st' hwf h
  simp only[x3_]at h
  split at h
  ·rename_i g args hi
   split at h
   ·rename_i p1 st1 hg
    obtain⟨h1,h2⟩:=hsd g args p st p1 st1 hwf hg
    obtain⟨h3,h4⟩:=ih p1 st1 r st' (h1.wf hwf) h
    refine⟨h1.trans h3,fun R ρ w tmps ds' u hd hf hw hfr hm hR=> ?_⟩
    cases ds' with
    |nil=>exact hd.elim
    |cons d' ds'=>
     obtain⟨⟨cap',args',rfl,hcap,hargs⟩,hd2⟩:=hd
     unfold aInvoke at hi
     split at hi
     ·rename_i fid hfn
      rcases aCall_run hi with⟨e,hcall⟩|⟨v,e,_⟩
      ·cases e
       refine⟨hm.settle.2,d.fn,cap',g,args'++cap',rfl,?_,?_⟩
       ·simp only[hfn,invoke]
        exact hcall _ w
       ·refine(h2 ρ w (args'++cap') u (by simpa using hargs.append hcap) hw (hfr.left h3.1) hm).mono fun e u' w' he=> ?_
        obtain⟨ρ',⟨v,rfl⟩,hm',hmv⟩:=he
        exact h4 R ρ' w' tmps ds' _ (hd2.mono hmv.ext) (hf.mono hmv.ext) hmv.wr (hmv.fresh hfr) hm' fun ρ2 e2 w2 he2 hm2=>hR ρ2 e2 w2 he2 (hmv.trans hm2)
      ·cases e
     ·cases hi
   ·cases h
  ·cases h
theorem G7_{ρ:Rho}{f:AFr}{a:Act}(h:FrR ρ f a):FrR ρ ⟨f.n,f.tmps,[]⟩ ⟨a.tmps,[]⟩:=⟨h.size,h.tmp,trivial⟩
theorem Q1_{ρ:Rho}{ds:List Deferred}(h:y3_ ρ [] ds):ds=[]:=by
 cases ds with
 |nil=>rfl
 |cons=>exact h.elim
theorem agm_{P:Program}{fn:Func}{p p':Option Value}{r:Rs (AX×AFr×ASt)}{st':ASt}(h:finD P fn p r= .ok (p',st')): ∃x f v,r= .ok (x,f,st')∧(x= .normal∨x= .ret)∧f.defers=[]∧p'=p∧u0_ P fn st' f= .ok v:=by
 unfold finD at h
 split at h
 ·rename_i f st1
  split at h
  ·rename_i hd
   obtain⟨v,h1,h2⟩:=bk_ h
   cases h2
   exact⟨_,f,v,rfl,.inl rfl,hd,rfl,h1⟩
  ·cases h
 ·rename_i f st1
  split at h
  ·rename_i hd
   obtain⟨v,h1,h2⟩:=bk_ h
   cases h2
   exact⟨_,f,v,rfl,.inr rfl,hd,rfl,h1⟩
  ·cases h
 ·cases h
 ·cases h
theorem X2_{P:Program}{fn:Func}{ρ:Rho}{x:AX}{e:Exit}{f:AFr}{a:Act}{st':ASt}{w:World}{v:Value}{R:Ending→World→Prop}(hx:x= .normal∨x= .ret)(hxe:XR ρ x e)(hf:FrR ρ f a)(hd:f.defers=[])(hw:WR ρ st'.h.get w)(hr:u0_ P fn st' f= .ok v)
  (hR: ∀v',R (.returned v') w):bodyPost P fn R e a w:=by
 obtain⟨v',k1,k2⟩:=E4_ (G7_ hf) hw hr
 have hdn:a.defers=[]:=by have:=hf.defs;rw[hd]at this;exact Q1_ this
 rcases hx with rfl|rfl<;>cases hxe<;>exact⟨hdn,v',k1,hR v'⟩
theorem ago_{P:Program}{self:Self}{f f':AFr}{st st':ASt}{o:Oper}{x:AX}(h:evOp P self f st o= .ok (x,f',st')):x≠ .ret:=by
 unfold evOp at h
 split at h
 ·cases h;simp
 ·split at h
  ·cases h;simp
  ·cases h;simp
  ·cases h
 ·cases h;simp
 ·cases h;simp
 ·cases h
theorem adh_{P:Program}{self:Self}{all:List Oper}: ∀(l:List Oper) {f f':AFr} {st st':ASt} {x:AX},evOps P self all l f st= .ok (x,f',st')→x≠ .ret:=by
 intro l
 induction l with
 |nil=>intro f f' st st' x h;cases h;simp
 |cons o l ih=>
  intro f f' st st' x h
  simp only[evOps]at h
  split at h
  ·split at h
   ·exact ih h
   ·exact ago_ h
  ·exact ih h
  ·cases h
theorem H2_{P:Program}{self:Self}(hs:w0_ P self)(hm:P.follows .mixedOrders=true)(fuel:Nat):aoU_ P (evD P self fuel):=by
 intro g args p st p' st' hwf h
 unfold evD at h
 split at h
 ·rename_i fn hfn
  have hfn':P.funcs[g]? =some fn:=by simpa using hfn
  split at h
  ·rename_i body hb
   have plain:finD P fn p (d3_ P self fuel body ⟨maxN args.length fn.ntmps,s9_ args 0 .leaf,[]⟩ st)= .ok (p',st')→LoS st st'∧ ∀ρ w (args':Array Value) u,VRL ρ args args'.toList→WR ρ st.h.get w→b6_ ρ st.next st'.next→A2_ ρ p u→
     CallsD P g args' u w fun e u' w'=> ∃ρ',(∃v,e= .returned v)∧A2_ ρ' p' (settle u')∧Mv ρ ρ' st.h.get st'.h.get st.next st'.next w w':=by
    intro h
    obtain⟨x,f,v,h1,h2,h3,h4,h5⟩:=agm_ h
    subst h4
    obtain⟨k1,k2⟩:=k4_ hs hm fuel body _ st x f st' hwf h1
    refine⟨k1,fun ρ w args' u hv hw hfr hmo=> ?_⟩
    refine CallsD.mono (callsD_of_wp (R:=fun e w'=> ∃ρ',(∃v,e= .returned v)∧Sub ρ ρ'∧Mv ρ ρ' st.h.get st'.h.get st.next st'.next w w') hfn' hb ?_) ?_
    ·refine k2 _ ρ w _ (j3_ fn.ntmps hv) hw hfr fun ρ' e' a' w' hxr hf' hmv=> ?_
     exact X2_ h2 hxr hf' h3 hmv.wr h5 fun v'=>⟨ρ',⟨v',rfl⟩,hmv.ext,hmv⟩
    ·rintro e u' w' ⟨rfl,ρ',h6,h7,h8⟩
     exact⟨ρ',h6,(hmo.mono h7).settle.1,h8⟩
   split at h
   ·rename_i id ops c2
    split at h
    ·rename_i o l hops
     cases hrec:p1_ o with
     |false=>rw[hrec]at h;exact plain h
     |true=>
      rw[hrec]at h
      simp only[cond_true]at h
      obtain⟨x,f,v,h1,h2,h3,h4,h5⟩:=agm_ h
      subst h4
      have hopsA:ops=(o::l).toArray:=by rw[←hops]
      subst hopsA
      obtain⟨hgd,hrun⟩:o.guard=none∧ ∀(ρv:Operand→Value) (w:World),(execOp ρv o).run P w= .ok .recover w:=by
       unfold p1_ at hrec
       split at hrec
       ·rename_i hop hgd
        refine⟨hgd,fun ρv w=> ?_⟩
        simp only[execOp,hop,resolve]
        rw[LawfulMonad.pure_bind]
        simp[invoke,builtin]
       ·cases hrec
      split at h1
      ·rename_i f1 st1 he
       obtain⟨k1,k2⟩:=H1_ hs (o::l) l _ st _ f1 st1 hwf he
       obtain⟨k3,k4⟩:=k4_ hs hm fuel c2 f1 st1 x f st' (k1.wf hwf) h1
       refine⟨k1.trans k3,fun ρ w args' u hv hw hfr hmo=> ?_⟩
       obtain⟨rv,u',hrv,hu',h0⟩: ∃rv u',VR ρ (E5_ p) rv∧settle u'= .returning∧((∃older,u= .panicking ({v:=rv,recovered:=false}::older)∧u'= .panicking ({v:=rv,recovered:=true}::older))∨(u= .returning∧u'= .returning∧rv= .nilIface)):=by
        cases p with
        |none=>cases hmo;exact⟨.nilIface,.returning,.nilIface,rfl,.inr ⟨rfl,rfl,rfl⟩⟩
        |some pv=>obtain⟨v',rfl,hv'⟩:=hmo;exact⟨v',.panicking [{v:=v',recovered:=true}],hv',rfl,.inl ⟨[],rfl,rfl⟩⟩
       refine CallsD.mono (I9_ (R:=fun e w'=> ∃ρ',(∃v,e= .returned v)∧Mv ρ ρ' st.h.get st'.h.get st.next st'.next w w') (u':=u') (v:=rv) hfn' hb hgd (fun ρv=>hrun ρv w) h0 ?_) ?_
       ·refine k2 _ ρ w _ ((j3_ fn.ntmps hv).put hrv) hw (hfr.left k3.1) fun ρ1 e1 a1 w1 hx1 hf1 hm1=> ?_
        cases hx1
        show Code.wp P c2 _ a1 w1
        refine k4 _ ρ1 w1 a1 hf1 hm1.wr (hm1.fresh hfr) fun ρ2 e2 a2 w2 hx2 hf2 hm2=> ?_
        exact X2_ h2 hx2 hf2 h3 hm2.wr h5 fun v'=>⟨ρ2,⟨v',rfl⟩,hm1.trans hm2⟩
       ·rintro e u'' w' ⟨rfl,ρ',h6,h8⟩
        exact⟨ρ',h6,hu',h8⟩
      ·rename_i hne
       exfalso
       have:x≠ .normal:=fun e=>by subst e;exact hne f st' h1
       rcases h2 with rfl|rfl
       ·exact this rfl
       ·exact adh_ l h1 rfl
    ·cases h
   ·exact plain h
  ·cases h
 ·cases h
theorem z8_{P:Program}(hm:P.follows .mixedOrders=true)(fuel:Nat){self:Self}(ih:w0_ P self):w0_ P (X4_ P fuel self):=by
  intro g args st r st' hwf h
  simp only[X4_]at h
  split at h
  ·rename_i fn hfn
   have hfn':P.funcs[g]? =some fn:=by simpa using hfn
   split at h
   ·rename_i body hb
    have ret: ∀(x:AX) (f:AFr) (st1:ASt),(x= .normal∨x= .ret)→d3_ P self fuel body ⟨maxN args.length fn.ntmps,s9_ args 0 .leaf,[]⟩ st= .ok (x,f,st1)→
      (match f.defers with
       |[]=>(u0_ P fn st1 f).bnd fun v=> .ok (.returned v,st1)
       |ds=>x3_ P (evD P self fuel) fn f ds none st1:Rs (AE×ASt))= .ok (r,st')→
      LoS st st'∧ ∀ρ w (args':Array Value),VRL ρ args args'.toList→WR ρ st.h.get w→b6_ ρ st.next st'.next→Calls P g args' w fun e w'=> ∃ρ',EndR ρ' r e∧Mv ρ ρ' st.h.get st'.h.get st.next st'.next w w':=by
     intro x f st1 hx he h
     obtain⟨k1,k2⟩:=k4_ ih hm fuel body _ st x f st1 hwf he
     split at h
     ·rename_i hd
      obtain⟨v,h1,h2⟩:=bk_ h
      cases h2
      refine⟨k1,fun ρ w args' hv hw hfr=>calls_of_wp hfn' hb (k2 _ ρ w _ (j3_ fn.ntmps hv) hw hfr fun ρ' e' a' w' hxr hf' hmv=> ?_)⟩
      obtain⟨v',m1,m2⟩:=E4_ (G7_ hf') hmv.wr h1
      have hdn:a'.defers=[]:=by have:=hf'.defs;rw[hd]at this;exact Q1_ this
      rcases hx with rfl|rfl<;>cases hxr<;>exact⟨hdn,v',m1,ρ',⟨v',rfl,m2⟩,hmv⟩
     ·obtain⟨k3,k4⟩:=s5_ (H2_ ih hm fuel) _ none st1 r st' (k1.wf hwf) h
      refine⟨k1.trans k3,fun ρ w args' hv hw hfr=>calls_of_wp_defers hfn' hb (k2 _ ρ w _ (j3_ fn.ntmps hv) hw (hfr.left k3.1) fun ρ' e' a' w' hxr hf' hmv=> ?_)⟩
      have hl:=k4 (fun e w'=> ∃ρ',EndR ρ' r e∧Mv ρ ρ' st.h.get st'.h.get st.next st'.next w w') ρ' w' a'.tmps a'.defers .returning hf'.defs (G7_ hf') hmv.wr (hmv.fresh hfr) rfl fun ρ2 e2 w2 he2 hm2=>⟨ρ2,he2,hmv.trans hm2⟩
      rcases hx with rfl|rfl<;>cases hxr<;>exact hl
    split at h
    ·rename_i f st1 he;exact ret _ f st1 (.inl rfl) he h
    ·rename_i f st1 he;exact ret _ f st1 (.inr rfl) he h
    ·rename_i v f st1 he
     obtain⟨k1,k2⟩:=k4_ ih hm fuel body _ st _ f st1 hwf he
     split at h
     ·rename_i hd
      cases h
      refine⟨k1,fun ρ w args' hv hw hfr=>calls_of_wp hfn' hb (k2 _ ρ w _ (j3_ fn.ntmps hv) hw hfr fun ρ' e' a' w' hxr hf' hmv=> ?_)⟩
      have hdn:a'.defers=[]:=by have:=hf'.defs;rw[hd]at this;exact Q1_ this
      obtain⟨v',rfl,hv'⟩:=hxr
      exact⟨hdn,ρ',⟨v',rfl,hv'⟩,hmv⟩
     ·obtain⟨k3,k4⟩:=s5_ (H2_ ih hm fuel) _ (some v) st1 r st' (k1.wf hwf) h
      refine⟨k1.trans k3,fun ρ w args' hv hw hfr=>calls_of_wp_defers hfn' hb (k2 _ ρ w _ (j3_ fn.ntmps hv) hw (hfr.left k3.1) fun ρ' e' a' w' hxr hf' hmv=> ?_)⟩
      obtain⟨v',rfl,hv'⟩:=hxr
      exact k4 (fun e w'=> ∃ρ',EndR ρ' r e∧Mv ρ ρ' st.h.get st'.h.get st.next st'.next w w') ρ' w' a'.tmps a'.defers _ hf'.defs (G7_ hf') hmv.wr (hmv.fresh hfr) ⟨v',rfl,hv'⟩ fun ρ2 e2 w2 he2 hm2=>⟨ρ2,he2,hmv.trans hm2⟩
    ·cases h
    ·cases h
   ·cases h
  ·cases h
theorem aaH_{P:Program}(hm:P.follows .mixedOrders=true)(fuel:Nat): ∀n,w0_ P (amE_ P fuel n):=by
 intro n
 induction n with
 |zero=>intro g args st r st' _ h;cases h
 |succ n ih=>exact z8_ hm fuel ih
def a8_(P:Program)(C:Told):Prop:= ∀g c,C g=some c→ ∀args st r st',Wf st→c.run args st= .ok (r,st')→LoS st st'∧ ∀ρ w (args':Array Value),VRL ρ args args'.toList→WR ρ st.h.get w→b6_ ρ st.next st'.next→Calls P g args' w fun e w'=> ∃ρ',EndR ρ' r e∧Mv ρ ρ' st.h.get st'.h.get st.next st'.next w w'
theorem k3_{P:Program}(hm:P.follows .mixedOrders=true){C:Told}(hC:a8_ P C)(fuel:Nat): ∀n,w0_ P (L3_ P C fuel n):=by
 intro n
 induction n with
 |zero=>intro g args st r st' _ h;cases h
 |succ n ih=>
  intro g args st r st' hwf h
  simp only[L3_]at h
  split at h
  ·rename_i c hc
   exact hC g c hc args st r st' hwf h
  ·exact z8_ hm fuel ih g args st r st' hwf h
theorem aaN_{P:Program}{g:FuncId}(hm:P.follows .mixedOrders=true)(h:aka_ P g=true)(w:World):Calls P g #[] w fun e w'=>e= .returned (.bool true)∧RowKit.Below w.heap.size w w':=by
 unfold aka_ at h
 split at h
 ·rename_i st' he
  have hwf:Wf st0:=fun x o e=>by cases e
  obtain⟨_,h2⟩:=aaH_ hm 100000 100 g [] st0 _ st' hwf he
  have hw:WR (fun _=>none) st0.h.get w:=by
   refine⟨?_,?_,?_,?_⟩
   ·intro a s e;cases e
   ·intro a o e;cases e
   ·intro a b oa ob sa sb e;cases e
   ·intro b hb;obtain⟨a,s,e,_⟩:=hb;cases e
  refine(h2 (fun _=>none) w #[] (VRL.nil _) hw (fun _ _ _=>rfl)).mono fun e w' he=> ?_
  obtain⟨ρ',⟨v',rfl,hv⟩,hmv⟩:=he
  cases hv
  exact⟨rfl,hmv.os,hmv.tape,hmv.output,hmv.size,fun k hk=>hmv.frm k hk fun⟨a,o,s,e1,_⟩=>by cases e1⟩
 ·cases h
end Go.Proofs.YtachglcffimmeaaGreat.Ev
