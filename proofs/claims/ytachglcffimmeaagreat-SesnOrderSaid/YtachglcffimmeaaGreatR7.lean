/-
  What the evaluator says of single operations holds of their runs: all of them.
-/
import Derived.Test.YtachglcffimmeaaGreatR6
import Derived.Test.YtachglcffimmeaaGreatR1
set_option linter.unusedVariables false
set_option linter.unusedSimpArgs false
namespace Go.Proofs.YtachglcffimmeaaGreat.Ev
open Go
theorem Y5_{P:Program}{o:Oper}{b:Builtin}{xs:List Operand}{ts:List TypeId}(h:o.op= .call {callee:= .builtin b,args:=xs.toArray,argTypes:=ts.toArray})(ρ:Operand→Value):
  ∃cs,execOp ρ o=builtin b ts.toArray o.type cs (xs.map ρ).toArray:=by
 refine⟨xs.toArray.map fun| .const _=>true|_=>false,?_⟩
 simp only[execOp,h,resolve]
 rw[LawfulMonad.pure_bind]
 simp[invoke]
 rfl
theorem y1_{ρ:Rho}{l l':List Value}(h:VRL ρ l l')(hg:l.all (ground 1)=true):l'=l:=by
 apply List.ext_getElem?
 intro i
 cases hx:l[i]? with
 |none=>rw[List.getElem?_eq_none_iff]at hx ⊢;have:=h.1;omega
 |some x=>
  obtain⟨y,hy,hv⟩:=h.get hx
  rw[List.all_eq_true]at hg
  rw[hy,VR.ground 1 (hg x (List.mem_of_getElem? hx)) hv]
theorem aoL_(k:FloatKind)(mx:Bool)(x y t:Nat):nanB k ((Question.nanMinMax k mx x y).cut t)=true:=by
 have:(Question.nanMinMax k mx x y).cut t=(Question.nanBits k x y).cut t:=by cases k<;>rfl
 rw[this]
 exact aaM_ k x y t
theorem ajZ_{P:Program}(ρ:Rho){k:FloatKind}{a b a' b':Nat}(a1:nanB k a'=nanB k a)(a2:nanB k a=false→a'=a)(b1:nanB k b'=nanB k b)(b2:nanB k b=false→b'=b)(mx:Bool)(w:World):
  ∃r w',((cond mx Builtin.max2 Builtin.min2) (.float k a') (.float k b')).run P w= .ok (.float k r) w'∧(w'=w∨w'=w.drew)∧VR ρ (.float k (mmF mx k a b)) (.float k r):=by
 have hord:k.format.order a' b'=k.format.order a b:=by
  cases hn:(nanB k a||nanB k b)with
  |true=>rw[(j6_ hn).2.2.2.2,(j6_ (a:=a') (b:=b') (by rw[a1,b1];exact hn)).2.2.2.2]
  |false=>
   simp only[Bool.or_eq_false_iff]at hn
   rw[a2 hn.1,b2 hn.2]
 cases ho:k.format.order a b with
 |none=>
  rw[ho]at hord
  refine⟨(Question.nanMinMax k mx a' b').cut (w.tape w.drawn (.nanMinMax k mx a' b')),w.drew,?_,.inr rfl,?_⟩
  ·cases mx<;>simp only[cond_true,cond_false,Builtin.max2,Builtin.min2,hord,Sem.run_bind,run_choose_drew,Question.forced,Bool.false_eq_true,if_false,Result.andThen_ok,Sem.run_pure]
  ·unfold mmF;rw[ho];exact .nan _ _ _ (q9_ k) (aoL_ _ _ _ _ _)
 |some o=>
  have hn:(nanB k a||nanB k b)=false:=by
   cases hn:(nanB k a||nanB k b)with
   |false=>rfl
   |true=>rw[(j6_ hn).2.2.2.2]at ho;cases ho
  simp only[Bool.or_eq_false_iff]at hn
  have e1:=a2 hn.1
  have e2:=b2 hn.2
  subst e1 e2
  refine⟨mmF mx k a' b',w,?_,.inl rfl,.float _ _⟩
  unfold mmF
  rw[ho]
  cases mx<;>cases o<;>simp only[cond_true,cond_false,Builtin.max2,Builtin.min2,ho,Sem.run_pure]
  all_goals (cases(k.decode a').neg<;>rfl)
theorem op_builtin{P:Program}{o:Oper}{f:AFr}{st:ASt}{b:Builtin}{xs:List Operand}{ts:List TypeId}{r:AN}(h:o.op= .call {callee:= .builtin b,args:=xs.toArray,argTypes:=ts.toArray})(hr:aBuiltin P st b ts (xs.map f.ev)= .ok r):OpR P o f st r:=by
 have hev: ∀ρ a,FrR ρ f a→VRL ρ (xs.map f.ev) (xs.map a.eval):=fun ρ a hf=>hf.evs xs
 have hexec: ∀a:Act,∃cs,execOp a.eval o=builtin b ts.toArray o.type cs (xs.map a.eval).toArray:=fun a=>Y5_ (P:=P) h a.eval
 generalize xs.map f.ev=vs at hr hev
 unfold aBuiltin at hr
 split at hr
 ·--append
  unfold H7_ at hr
  split at hr
  rotate_left
  ·cases hr
  rename_i t t2 ts s x
  cases hrow:abU_ s x with
  |true=>
   rw[hrow]at hr
   simp only[cond_true]at hr
   obtain⟨d,hd,hr1⟩:=bk_ hr
   clear hr
   obtain⟨d2,hd2,hr2⟩:=bk_ hr1
   clear hr1
   split at hr2
   ·rename_i elem
    obtain⟨size,hs,hr3⟩:=bk_ hr2
    clear hr2
    obtain⟨by_,hby,hr4⟩:=bk_ hr3
    clear hr3
    obtain⟨z,hz,hr5⟩:=bk_ hr4
    clear hr4
    obtain⟨nf,hn,hr6⟩:=bk_ hr5
    clear hr5
    split at hr6
    ·rename_i base len cap
     obtain⟨hc,hr7⟩:=ck_ hr6
     clear hr6
     obtain⟨c1,hr8⟩:=ck_ hr7
     clear hr7
     simp only[Bool.and_eq_true]at hc
     have c1:=Nat.le_of_ble_eq_true c1
     have c2:=Nat.le_of_ble_eq_true hc.1
     have c3:=Nat.eq_of_beq_eq_true hc.2
     obtain⟨n,ff,st1⟩:=nf
     simp only at c1 hr8
     have hst: ∃v st',r= .val v st':=ajh_ hr8
     obtain⟨v,st',rfl⟩:=hst
     have hlo:LoS st st':=(ale_ hn).trans (Z0_ hr8).2
     refine⟨hlo,fun ρ w a hfa hw hfr=> ?_⟩
     have hv:=hev ρ a hfa
     obtain⟨s',l1,e1,hS,hv⟩:=hv.uncons
     obtain⟨x',l2,e2,hX,hv⟩:=hv.uncons
     have e3:=hv.nil_inv
     obtain⟨cs,hex⟩:=hexec a
     subst e3 e2
     rw[e1]at hex
     obtain⟨ρ',v',w',k1,k2,k3⟩:=ads_ (P:=P) (ty:=o.type) (ts:=ts) hd hd2 hs hby hz hn c1 c2 c3 hr8 hw hS hX hfr
     refine⟨ρ',v',w',.inl ?_,k2,k3⟩
     rw[hex]
     simp only[builtin,Sem.run_bind]
     rw[k1]
     rfl
    ·cases hr6
   ·cases hr2
  |false=>
  rw[hrow]at hr
  simp only[cond_false]at hr
  simp only[Q9_]at hr
  ·obtain⟨d,hd,hr1⟩:=bk_ hr
   clear hr
   obtain⟨d2,hd2,hr2⟩:=bk_ hr1
   clear hr1
   split at hr2
   ·rename_i elem base len cap
    obtain⟨size,hs,hr3⟩:=bk_ hr2
    clear hr2
    obtain⟨by_,hby,hr4⟩:=bk_ hr3
    clear hr3
    obtain⟨z,hz,hr5⟩:=bk_ hr4
    clear hr4
    obtain⟨nn,hn,hr6⟩:=bk_ hr5
    clear hr5
    obtain⟨hc,hr7⟩:=ck_ hr6
    clear hr6
    simp only[Bool.and_eq_true]at hc
    obtain⟨⟨c1,c2⟩,c3⟩:=hc
    have c1:=Nat.le_of_ble_eq_true c1
    have c2:=Nat.le_of_ble_eq_true c2
    have c3:=Nat.eq_of_beq_eq_true c3
    obtain⟨n,new⟩:=nn
    simp only at c1 hr7
    have hst: ∃v st',r= .val v st':=by
     cases hb:Nat.ble (len+n) cap with
     |true=>
      rw[hb]at hr7
      simp only[cond_true]at hr7
      split at hr7
      ·cases hr7;exact⟨_,_,rfl⟩
      ·obtain⟨st1,_,e⟩:=bk_ hr7;cases e;exact⟨_,_,rfl⟩
      ·cases hr7
     |false=>
      rw[hb]at hr7
      simp only[cond_false]at hr7
      split at hr7
      ·cases hr7;exact⟨_,_,rfl⟩
      ·obtain⟨old,_,e⟩:=bk_ hr7
       split at e
       ·cases e;exact⟨_,_,rfl⟩
       ·obtain⟨_,e⟩:=ck_ e;cases e;exact⟨_,_,rfl⟩
       ·cases e
      ·cases hr7
    obtain⟨v,st',rfl⟩:=hst
    refine⟨?_,fun ρ w a hfa hw hfr=> ?_⟩
    ·cases hb:Nat.ble (len+n) cap with
     |true=>
      rw[hb]at hr7
      simp only[cond_true]at hr7
      split at hr7
      ·cases hr7;exact LoS.refl _
      ·obtain⟨st1,e1,e⟩:=bk_ hr7;cases e;exact R1_ e1
      ·cases hr7
     |false=>
      rw[hb]at hr7
      simp only[cond_false]at hr7
      split at hr7
      ·cases hr7;exact LoS.new _ _
      ·obtain⟨old,_,e⟩:=bk_ hr7
       split at e
       ·cases e;exact LoS.new _ _
       ·obtain⟨_,e⟩:=ck_ e;cases e;exact(LoS.set _ _ _ (.inl rfl)).trans (LoS.new _ _)
       ·cases e
      ·cases hr7
    ·have hv:=hev ρ a hfa
     obtain⟨s',l1,e1,hS,hv⟩:=hv.uncons
     obtain⟨x',l2,e2,hX,hv⟩:=hv.uncons
     have e3:=hv.nil_inv
     obtain⟨cs,hex⟩:=hexec a
     subst e3 e2
     rw[e1]at hex
     obtain⟨ρ',v',w',k1,k2,k3⟩:=agV_ (P:=P) (ty:=o.type) (ts:=ts) hd hd2 hs hby hz hn c1 c2 c3 hr7 hw hS hX hfr
     refine⟨ρ',v',w',.inl ?_,k2,k3⟩
     rw[hex]
     simp only[builtin,Sem.run_bind]
     rw[k1]
     rfl
   ·cases hr2
 ·--len
  rename_i t ts x
  obtain⟨v,h1,h2⟩:=bk_ hr
  cases h2
  refine OpR.quiet fun ρ w a hfa hw=> ?_
  obtain⟨x',l1,e1,hX,hv⟩:=(hev ρ a hfa).uncons
  have e3:=hv.nil_inv
  obtain⟨cs,hex⟩:=hexec a
  subst e3
  rw[e1]at hex
  obtain⟨k1,k2⟩:=amd_ (P:=P) (ts:=ts) (ty:=o.type) h1 hX hw
  refine⟨v,?_,k2⟩
  rw[hex]
  simp only[builtin,Sem.run_bind]
  rw[k1]
  rfl
 ·--cap
  rename_i t ts x
  obtain⟨d,hd,h2⟩:=bk_ hr
  split at h2
  ·obtain⟨v,h1,h3⟩:=bk_ h2
   cases h3
   refine OpR.quiet fun ρ w a hfa hw=> ?_
   obtain⟨x',l1,e1,hX,hv⟩:=(hev ρ a hfa).uncons
   have e3:=hv.nil_inv
   obtain⟨cs,hex⟩:=hexec a
   subst e3
   rw[e1]at hex
   obtain⟨k1,k2⟩:=amI_ (P:=P) (ts:=ts) (ty:=o.type) h1 hd hX hw
   refine⟨v,?_,k2⟩
   rw[hex]
   simp only[builtin,Sem.run_bind]
   rw[k1]
   rfl
  ·cases h2
 ·--min of two
  rename_i ts k a0 k' b0
  obtain⟨hk,h2⟩:=ck_ hr
  cases h2
  have:=B1_ hk
  subst this
  refine⟨LoS.refl st,fun ρ w a hfa hw _=> ?_⟩
  obtain⟨x',l1,e1,hx,hl1⟩:=(hev ρ a hfa).uncons
  obtain⟨y',l2,e2,hy,hl2⟩:=hl1.uncons
  have e3:=hl2.nil_inv
  obtain⟨cs,hex⟩:=hexec a
  rw[e1,e2,e3]at hex
  obtain⟨a',rfl,a1,a2⟩:=h5_ hx
  obtain⟨b',rfl,b1,b2⟩:=h5_ hy
  obtain⟨r,w',q1,q2,q3⟩:=ajZ_ (P:=P) ρ a1 a2 b1 b2 false w
  simp only[cond_true,cond_false]at q1
  refine⟨ρ,.float k r,w',.inl ?_,q3,?_⟩
  ·rw[hex]
   simp only[builtin,Sem.run_bind,Builtin.min_,Builtin.max_,List.foldlM_cons,List.foldlM_nil,q1,Result.andThen_ok,Sem.run_pure]
  ·rcases q2 with rfl|rfl
   ·exact Mv.refl hw _
   ·exact Mv.drew hw _
 ·--max of two
  rename_i ts k a0 k' b0
  obtain⟨hk,h2⟩:=ck_ hr
  cases h2
  have:=B1_ hk
  subst this
  refine⟨LoS.refl st,fun ρ w a hfa hw _=> ?_⟩
  obtain⟨x',l1,e1,hx,hl1⟩:=(hev ρ a hfa).uncons
  obtain⟨y',l2,e2,hy,hl2⟩:=hl1.uncons
  have e3:=hl2.nil_inv
  obtain⟨cs,hex⟩:=hexec a
  rw[e1,e2,e3]at hex
  obtain⟨a',rfl,a1,a2⟩:=h5_ hx
  obtain⟨b',rfl,b1,b2⟩:=h5_ hy
  obtain⟨r,w',q1,q2,q3⟩:=ajZ_ (P:=P) ρ a1 a2 b1 b2 true w
  simp only[cond_true,cond_false]at q1
  refine⟨ρ,.float k r,w',.inl ?_,q3,?_⟩
  ·rw[hex]
   simp only[builtin,Sem.run_bind,Builtin.min_,Builtin.max_,List.foldlM_cons,List.foldlM_nil,q1,Result.andThen_ok,Sem.run_pure]
  ·rcases q2 with rfl|rfl
   ·exact Mv.refl hw _
   ·exact Mv.drew hw _
 ·--min
  rename_i ts x rest _
  obtain⟨hg,h2⟩:=ck_ hr
  split at h2
  ·rename_i v hv
   obtain⟨hg1,h3⟩:=ck_ h2
   cases h3
   refine OpR.quiet fun ρ w a hfa hw=> ?_
   have hall:(x::rest).all (ground 1)=true:=by simpa using hg
   have e1:=y1_ (hev ρ a hfa) hall
   obtain⟨cs,hex⟩:=hexec a
   rw[e1]at hex
   refine⟨v,?_,q8_ hg1⟩
   rw[hex]
   simp only[builtin,Sem.run_bind,Builtin.min_,f3_ hv,Result.andThen_ok,Sem.run_pure]
  ·cases h2
 ·--max
  rename_i ts x rest _
  obtain⟨hg,h2⟩:=ck_ hr
  split at h2
  ·rename_i v hv
   obtain⟨hg1,h3⟩:=ck_ h2
   cases h3
   refine OpR.quiet fun ρ w a hfa hw=> ?_
   have hall:(x::rest).all (ground 1)=true:=by simpa using hg
   have e1:=y1_ (hev ρ a hfa) hall
   obtain⟨cs,hex⟩:=hexec a
   rw[e1]at hex
   refine⟨v,?_,q8_ hg1⟩
   rw[hex]
   simp only[builtin,Sem.run_bind,Builtin.max_,f3_ hv,Result.andThen_ok,Sem.run_pure]
  ·cases h2
 ·cases hr
theorem adf_{fn:Func}(h:fn.name= "math.archTrunc"):Extern.find fn=some (Extern.MathFloor.toIntegral "math.archTrunc" .zero):=by
 have h1:Extern.allGenericRows.lookup "math.archTrunc" =none:=by kernel_rfl
 have h2:Extern.allTypedRows.lookup "math.archTrunc" =none:=by kernel_rfl
 have h3:Extern.allRows.lookup "math.archTrunc" =some (Extern.MathFloor.toIntegral "math.archTrunc" .zero):=by kernel_rfl
 unfold Extern.find
 simp only[h,h1,h2,h3,Option.map_none]
 rfl
theorem afz_{s:Bool}{t x:Nat}(h:FloatKind.f64.decode x= .nan s t):nanB .f64 (FloatKind.f64.encode (.nan s (FloatKind.f64.format.quiet t)))=true:=by
 have e1:FloatKind.f64.encode (.nan s (FloatKind.f64.format.quiet t))=Ieee.double.word s (Ieee.double.infRung+Ieee.double.quiet t%Ieee.double.binade):=rfl
 have s1:Ieee.double.signWeight=9223372036854775808:=by decide
 have s2:Ieee.double.infRung=9218868437227405312:=by decide
 have s3:Ieee.double.binade=4503599627370496:=by decide
 have hq:0<Ieee.double.quiet t%Ieee.double.binade:=by
  have h51:(Ieee.double.quiet t%Ieee.double.binade).testBit 51=true:=by
   have:Ieee.double.binade=2^52:=by decide
   rw[this,Nat.testBit_mod_two_pow]
   have:Ieee.double.quiet t=t|||2^51:=rfl
   rw[this,Nat.testBit_or]
   have h51:Nat.testBit (2^51) 51=true:=by decide
   rw[h51,Bool.or_true]
   rfl
  rcases Nat.eq_zero_or_pos (Ieee.double.quiet t%Ieee.double.binade)with h|h
  ·rw[h]at h51;simp at h51
  ·exact h
 have hl:Ieee.double.quiet t%Ieee.double.binade<4503599627370496:=by rw[←s3];exact Nat.mod_lt _ (by decide)
 rw[e1]
 generalize Ieee.double.quiet t%Ieee.double.binade=q at hq hl
 refine g7_ (k:= .f64) (s:=Ieee.double.word s (Ieee.double.infRung+q)/Ieee.double.signWeight%2==1) (p:=Ieee.double.word s (Ieee.double.infRung+q)%Ieee.double.signWeight-Ieee.double.infRung) ?_
 have hw:Ieee.double.word s (Ieee.double.infRung+q)%Ieee.double.signWeight=Ieee.double.infRung+q:=by
  unfold Ieee.Format.word
  rw[s1,s2]
  cases s<;>simp<;>omega
 show Ieee.double.read _=_
 unfold Ieee.Format.read
 rw[hw,s1,s2,s3]
 simp only
 rw[if_neg (by omega),if_neg (by omega),if_neg (by omega)]
theorem A7_(x:Nat):Extern.MathFloor.toIntegral "math.archTrunc" .zero #[.float .f64 x]=(match FloatKind.f64.decode x with
  | .nan s t=>if FloatKind.f64.format.quiet t=t then pure (.float .f64 x)else do
   let kept←choose (.extern "math.Floor,Ceil,Trunc,RoundToEven.signallingNaN kept" 2)
   pure (.float .f64 (if kept==1 then x else FloatKind.f64.encode (.nan s (FloatKind.f64.format.quiet t))))
  |d=>pure (.float .f64 (FloatKind.f64.encode (d.integral .zero))):Sem Value):=rfl
theorem adV_{P:Program}{f:FuncId}{fn:Func}(hfn:P.funcs[f]? =some fn)(hb:fn.body=none)(ht:s6_ fn=true)(ρ:Rho)(x x':Nat)(h1:nanB .f64 x'=nanB .f64 x)(h2:nanB .f64 x=false→x'=x)(w:World):
  ∃v w',(callFunc f #[.float .f64 x']).run P w= .ok (.value v) w'∧(w'=w∨w'=w.drew)∧VR ρ (.float .f64 (y4_ x)) v:=by
 unfold s6_ at ht
 simp only[Bool.and_eq_true,beq_iff_eq,Option.isNone_iff_eq_none]at ht
 have hg:(fn.name== "runtime.NumGoroutine")=false:=by rw[ht.1];decide
 have hrun: ∀v w',(Extern.MathFloor.toIntegral "math.archTrunc" .zero #[.float .f64 x']).run P w= .ok v w'→(callFunc f #[.float .f64 x']).run P w= .ok (.value v) w':=by
  intro v w' e
  simp only[callFunc,Sem.run_bind,run_program,Result.andThen_ok,hfn,hg,Bool.false_eq_true,if_false,hb,Option.isNone_none,if_true,run_mark,ht.2,adf_ ht.1,e,Sem.run_pure]
 have hdec:(∃s t,FloatKind.f64.decode x'= .nan s t)∨nanB .f64 x'=false:=by
  cases hn:nanB .f64 x' with
  |false=>exact .inr rfl
  |true=>exact .inl (B6_ hn)
 rcases hdec with⟨s,t,hd⟩|hn
 ·have hn:nanB .f64 x'=true:=g7_ (k:= .f64) hd
  have hR:y4_ x=qnan .f64:=by unfold y4_;rw[←h1,hn];rfl
  rw[hR]
  by_cases hq:FloatKind.f64.format.quiet t=t
  ·exact⟨.float .f64 x',w,hrun _ _ (by rw[A7_,hd];simp only[hq,if_true,Sem.run_pure]),.inl rfl,.nan _ _ _ (q9_ _) hn⟩
  ·refine⟨_,w.drew,hrun _ _ (by rw[A7_,hd];simp only[hq,if_false,Sem.run_bind,run_choose_drew,Question.forced,Result.andThen_ok,Sem.run_pure];rfl),.inr rfl,.nan _ _ _ (q9_ _) ?_⟩
   split
   ·exact hn
   ·exact afz_ hd
 ·have hxx:=h2 (by rw[←h1];exact hn)
  subst hxx
  have hnn: ∀s t,FloatKind.f64.decode x'≠ .nan s t:=fun s t e=>by
   have:=g7_ (k:= .f64) e
   rw[hn]at this;cases this
  have hR:y4_ x'=FloatKind.f64.encode ((FloatKind.f64.decode x').integral .zero):=by unfold y4_;rw[hn];rfl
  rw[hR]
  refine⟨_,w,hrun _ _ ?_,.inl rfl,.float _ _⟩
  cases hd:FloatKind.f64.decode x' with
  |nan s t=>exact absurd hd (hnn s t)
  |infinity s=>rw[A7_,hd];rfl
  |number s m i=>rw[A7_,hd];rfl
theorem aCall_run{P:Program}{f:FuncId}{args:List Value}{st:ASt}{r:AN}(h:abd_ P f args st= .ok r):
  (r= .enter f args∧ ∀(args':Array Value) (w:World),(callFunc f args').run P w= .ok (.enter f args') w)∨
  (∃v,r= .val v st∧((w5_ v=true∧args.all (ground 1)=true∧ ∀w,(callFunc f args.toArray).run P w= .ok (.value v) w)∨
   (∃x fn,args=[.float .f64 x]∧v= .float .f64 (y4_ x)∧P.funcs[f]? =some fn∧fn.body=none∧s6_ fn=true))):=by
 unfold abd_ at h
 split at h
 ·rename_i fn hfn
  have hfn':P.funcs[f]? =some fn:=by simpa using hfn
  split at h
  ·rename_i body hb
   have hc:(fn.name== "runtime.NumGoroutine")=false∧r= .enter f args:=by
    cases hc:fn.name== "runtime.NumGoroutine" with
    |true=>rw[hc]at h;cases h
    |false=>rw[hc]at h;cases h;exact⟨rfl,rfl⟩
   refine .inl ⟨hc.2,fun args' w=> ?_⟩
   simp only[callFunc,Sem.run_bind,run_program,Result.andThen_ok,hfn',hc.1,Bool.false_eq_true,if_false,hb,Option.isNone_some,Sem.run_pure]
  ·rename_i hb
   cases ht:s6_ fn with
   |true=>
    rw[ht]at h
    simp only[cond_true]at h
    split at h
    ·rename_i x
     cases h
     exact .inr ⟨_,rfl,.inr ⟨x,fn,rfl,rfl,hfn',hb,ht⟩⟩
    ·cases h
   |false=>
    rw[ht]at h
    simp only[cond_false]at h
    obtain⟨h1,h2⟩:=ck_ h
    split at h2
    ·rename_i v hv
     obtain⟨h3,h4⟩:=ck_ h2
     cases h4
     exact .inr ⟨v,rfl,.inl ⟨h3,h1,fun w=>f3_ hv w⟩⟩
    ·cases h2
 ·cases h
theorem op_callValue{P:Program}{o:Oper}{f:AFr}{st:ASt}{g:Operand}{xs:List Operand}{ts:Array TypeId}{fn:Fn}{a0 b0:Array Value}{r:AN}(h:o.op= .call {callee:= .value g,args:=xs.toArray,argTypes:=ts})(hg:f.ev g= .func fn a0 b0)
  (hr:aInvoke P fn (a0.toList++xs.map f.ev) b0.toList st= .ok r):OpR P o f st r:=by
 unfold aInvoke at hr
 split at hr
 ·rename_i fid
  have common: ∀(ρ:Rho) (w:World) (a:Act),FrR ρ f a→ ∃args':List Value,execOp a.eval o=callFunc fid args'.toArray∧VRL ρ (a0.toList++xs.map f.ev++b0.toList) args':=by
   intro ρ w a hf
   have hG:=hf.ev g
   rw[hg]at hG
   generalize hA:a.eval g=A at hG
   cases hG with
   |func _ _ a1 _ b1 ha hb h1 h2=>
    refine⟨a1.toList++xs.map a.eval++b1.toList,?_,((VRL.of_arrays ha h1).append (hf.evs xs)).append (VRL.of_arrays hb h2)⟩
    simp only[execOp,h,resolve,hA,Deferred.ofValue]
    rw[LawfulMonad.pure_bind]
    simp only[invoke]
    congr 1
    apply Array.toList_inj.1
    simp
  rcases aCall_run hr with⟨rfl,h1⟩|⟨v,rfl,⟨h1,h2,h3⟩|⟨x,fn,hx,rfl,hfn,hb,ht⟩⟩
  ·intro ρ w a hf hw
   obtain⟨args',e1,e2⟩:=common ρ w a hf
   exact⟨args'.toArray,by rw[e1];exact h1 _ w,by simpa using e2⟩
  ·refine OpR.quiet fun ρ w a hf hw=> ?_
   obtain⟨args',e1,e2⟩:=common ρ w a hf
   have:=y1_ e2 h2
   subst this
   exact⟨v,by rw[e1];exact h3 w,q8_ h1⟩
  ·refine⟨LoS.refl st,fun ρ w a hf hw _=> ?_⟩
   obtain⟨args',e1,e2⟩:=common ρ w a hf
   rw[hx]at e2
   obtain⟨y,l,rfl,hy,hl⟩:=e2.uncons
   have:=hl.nil_inv
   subst this
   obtain⟨x',rfl,y1,y2⟩:=h5_ hy
   obtain⟨v',w',q1,q2,q3⟩:=adV_ hfn hb ht ρ x x' y1 y2 w
   refine⟨ρ,v',w',.inl (by rw[e1];exact q1),q3,?_⟩
   rcases q2 with rfl|rfl
   ·exact Mv.refl hw _
   ·exact Mv.drew hw _
 ·cases hr
theorem op_defer{P:Program}{o:Oper}{f:AFr}{st:ASt}{g:Operand}{xs:List Operand}{ts:Array TypeId}{fn:Fn}{a0 b0:Array Value}(h:o.op= .defer {callee:= .value g,args:=xs.toArray,argTypes:=ts})(hg:f.ev g= .func fn a0 b0):
  OpR P o f st (.defer ⟨fn,b0.toList,a0.toList++xs.map f.ev⟩):=by
 intro ρ w a hf hw
 have hG:=hf.ev g
 rw[hg]at hG
 generalize hA:a.eval g=A at hG
 cases hG with
 |func _ _ a1 _ b1 ha hb h1 h2=>
  refine⟨{target:= .fn fn b1,args:=a1++(xs.map a.eval).toArray},?_,b1,_,rfl,VRL.of_arrays hb h2,?_⟩
  ·simp only[execOp,h,resolve,hA,Deferred.ofValue]
   rw[LawfulMonad.pure_bind]
   simp
  ·simpa using(VRL.of_arrays ha h1).append (hf.evs xs)
theorem aik_{P:Program}{o:Oper}{f:AFr}{st:ASt}{x:Operand}{t:TypeId}{v:Value}(h:o.op= .panic x)(hx:f.ev x= .iface t v):OpR P o f st (.panic (.iface t v)):=by
 intro ρ w a hf hw
 have hX:=hf.ev x
 rw[hx]at hX
 generalize hA:a.eval x=A at hX
 cases hX with
 |iface _ _ v' hv=>exact⟨.iface t v',by simp[execOp,h,hA,Instr.panic],.iface _ _ _ hv⟩
theorem r9_{a b:Nat}(h:Nat.ble a b=true):a≤b:=Nat.le_of_ble_eq_true h
theorem v5_{a b:Nat}(h:Nat.blt a b=true):a<b:=by simpa using h
set_option maxHeartbeats 1000000 in
theorem m4_{P:Program}{f:AFr}{st:ASt}{o:Oper}{r:AN}(h:aOp P f st o= .ok r):OpR P o f st r:=by
 unfold aOp at h
 cases hop:o.op with
 |move x=>simp only[hop]at h;cases h;exact afo_ (.inl hop)
 |assign x=>simp only[hop]at h;cases h;exact afo_ (.inr hop)
 |pick c a b=>
  simp only[hop]at h
  split at h
  ·rename_i b' hb;cases h;exact alz_ hop hb
  ·cases h
 |alloc t=>
  simp only[hop]at h
  obtain⟨z,hz,h1⟩:=bk_ h
  cases h1
  exact ain_ hop hz
 |box t x=>
  simp only[hop]at h
  obtain⟨h1,h2⟩:=ck_ h
  cases h2
  exact aos_ hop h1
 |build t ps=>
  simp only[hop]at h
  obtain⟨z,hz,h1⟩:=bk_ h
  obtain⟨d,hd,h2⟩:=bk_ h1
  split at h2
  ·obtain⟨pl,hp,h3⟩:=bk_ h2
   obtain⟨cs,hc,h4⟩:=bk_ h3
   cases h4
   exact F3_ hop hz hd hp hc
  ·obtain⟨n,hn,h3⟩:=bk_ h2
   obtain⟨cs,hc,h4⟩:=bk_ h3
   cases h4
   exact I2_ hop hz hd hn hc
  ·cases h2
 |buildSlice t len ps=>
  simp only[hop]at h
  obtain⟨d,hd,h2⟩:=bk_ h
  split at h2
  ·obtain⟨n,hn,h3⟩:=bk_ h2
   obtain⟨z,hz,h4⟩:=bk_ h3
   obtain⟨hc,h5⟩:=ck_ h4
   simp only[Bool.and_eq_true]at hc
   obtain⟨cs,hf,h6⟩:=bk_ h5
   cases h6
   exact O6_ hop hd hn hz (Nat.eq_of_beq_eq_true hc.1) (r9_ hc.2) hf
  ·cases h2
 |load t x=>
  simp only[hop]at h
  split at h
  ·rename_i a0 hx
   obtain⟨n,hn,h3⟩:=bk_ h
   obtain⟨l,hl,h4⟩:=bk_ h3
   obtain⟨v,hv,h5⟩:=bk_ h4
   cases h5
   exact alA_ hop hx hn hl hv
  ·cases h
 |store t x y=>
  simp only[hop]at h
  split at h
  ·rename_i a0 hx
   obtain⟨n,hn,h3⟩:=bk_ h
   obtain⟨hc,h4⟩:=ck_ h3
   obtain⟨st',hw,h5⟩:=bk_ h4
   cases h5
   exact aij_ hop hx hn (Nat.eq_of_beq_eq_true hc) hw
  ·cases h
 |nilCheck x=>
  simp only[hop]at h
  split at h<;>first
   |(cases h;done)
   |(rename_i hx;cases h;rw[←hx];exact aaw_ hop (by rw[hx]))
 |binOp op t x y ty=>
  simp only[hop]at h
  split at h
  ·rename_i v hv
   cases h
   exact op_float hop hv
  ·obtain⟨q,hq,h1⟩:=bk_ h
   obtain⟨k1,k2⟩:=aim_ hop hq (st:=st)
   split at h1
   ·cases h1;exact k1 _ rfl
   ·cases h1;exact k2 _ rfl
   ·cases h1
 |unOp op t x=>
  simp only[hop]at h
  split at h
  ·rename_i v hv
   cases h
   exact op_negF hop hv
  obtain⟨hc,h1⟩:=ck_ h
  split at h1
  ·rename_i v hv
   obtain⟨hg,h2⟩:=ck_ h1
   cases h2
   exact aly_ hop hc hv hg
  ·cases h1
 |convert s d x=>simp only[hop]at h;exact alB_ hop h
 |makeInterface t x=>
  simp only[hop]at h
  obtain⟨d,hd,h1⟩:=bk_ h
  split at h1
  ·cases h1
  ·rename_i hne
   cases h1
   exact op_makeInterface hop hd (fun m e=>hne m e)
 |makeFunc fn a b=>simp only[hop]at h;cases h;exact aax_ hop
 |makeMap t q=>
  simp only[hop]at h
  split at h
  ·cases h;exact K1_ hop (fun x e=>by cases e)
  ·rename_i x
   split at h
   ·rename_i k n hx
    obtain⟨d,hd,h1⟩:=bk_ h
    split at h1
    ·cases h1
     exact K1_ hop (fun y e=>by cases e;exact⟨⟨_,_,hx⟩,_,_,hd⟩)
    ·cases h1
   ·cases h
 |makeSlice t l c=>
  simp only[hop]at h
  split at h
  ·rename_i k1 l' k2 c' hl hc
   obtain⟨d,hd,h1⟩:=bk_ h
   split at h1
   ·obtain⟨z,hz,h2⟩:=bk_ h1
    obtain⟨n,hn,h3⟩:=bk_ h2
    obtain⟨b,hb,h4⟩:=bk_ h3
    cases hrow:ahT_ c with
    |true=>
     rw[hrow]at h4
     obtain⟨hcc,h5⟩:=ck_ h4
     simp only[Bool.and_eq_true]at hcc
     cases h5
     have e:=Nat.eq_of_beq_eq_true hcc.1.1.1.1
     subst e
     exact acT_ hop hl hc hd hz hn hb (r9_ hcc.1.1.1.2) (r9_ hcc.1.1.2) (Nat.eq_of_beq_eq_true hcc.1.2) hcc.2
    |false=>
     rw[hrow]at h4
     obtain⟨hcc,h5⟩:=ck_ h4
     simp only[Bool.and_eq_true]at hcc
     cases h5
     exact V2_ hop hl hc hd hz hn hb (r9_ hcc.1.1.1) (r9_ hcc.1.1.2) (r9_ hcc.1.2) (Nat.eq_of_beq_eq_true hcc.2)
   ·cases h1
  ·cases h
 |slice t x lo hi mx=>
  simp only[hop]at h
  split at h
  ·obtain⟨v,hv,h1⟩:=bk_ h
   cases h1
   unfold aSlice at hv
   obtain⟨d,hd,h2⟩:=bk_ hv
   split at h2
   ·rename_i s hx
    obtain⟨b1,e1,h3⟩:=bk_ h2
    obtain⟨b2,e2,h4⟩:=bk_ h3
    cases h4
    exact U8_ hop hx hd e1 e2
   ·rename_i e hx
    obtain⟨b1,e1,h3⟩:=bk_ h2
    obtain⟨b2,e2,h4⟩:=bk_ h3
    obtain⟨n,hn,h5⟩:=bk_ h4
    cases h5
    have hb:b1=0:=by
     unfold d2_ at e1
     split at e1
     ·cases e1;rfl
     ·obtain⟨q,e3⟩:=ck_ e1;cases e3;have:=r9_ q;omega
     ·cases e1
    subst hb
    exact V1_ hop hx hd hn e1 e2
   ·rename_i e b0 o0 len cap hx
    obtain⟨b1,e1,h3⟩:=bk_ h2
    obtain⟨b2,e2,h4⟩:=bk_ h3
    obtain⟨n,hn,h5⟩:=bk_ h4
    split at h5
    ·rename_i cs es hg
     cases h5
     exact op_slice_ex hop hx hd hn hg e1 e2
    ·rename_i cs es hg
     obtain⟨hes,h6⟩:=ck_ h5
     cases h6
     have:=Nat.eq_of_beq_eq_true hes
     subst this
     exact V0_ hop hx hd hn hg e1 e2
    ·cases h5
   ·rename_i e b0 i0 len cap hx
    obtain⟨b1,e1,h3⟩:=bk_ h2
    obtain⟨b2,e2,h4⟩:=bk_ h3
    obtain⟨n,hn,h5⟩:=bk_ h4
    split at h5
    ·rename_i own es lo m elem hg
     obtain⟨hes,h6⟩:=ck_ h5
     cases h6
     have:=Nat.eq_of_beq_eq_true hes
     subst this
     exact U9_ hop hx hd hn hg e1 e2
    ·cases h5
   ·cases h2
  ·rename_i m
   split at h
   ·rename_i k2 k3 hm hh
    cases hi with
    |none=>cases hh
    |some hi=>
    simp only[Option.map_some,Option.some.injEq]at hh
    obtain⟨d,hd,h1⟩:=bk_ h
    split at h1
    ·rename_i e b0 i0 a c hx
     obtain⟨n,hn,h2⟩:=bk_ h1
     cases h2
     exact m8_ hop hm hh hd hn (.inl ⟨_,_,_,_,hx,rfl⟩)
    ·rename_i e hx
     obtain⟨n,hn,h2⟩:=bk_ h1
     cases h2
     exact m8_ hop hm hh hd hn (.inr (.inl ⟨hx,rfl⟩))
    ·rename_i e b0 o0 a c hx
     obtain⟨n,hn,h2⟩:=bk_ h1
     cases h2
     exact m8_ hop hm hh hd hn (.inr (.inr ⟨_,_,_,_,hx,rfl⟩))
    ·cases h1
   ·cases h
 |fieldAddr s x i=>
  simp only[hop]at h
  split at h
  ·rename_i b0 o0 hx
   obtain⟨fd,hf,h1⟩:=bk_ h
   obtain⟨n,hn,h2⟩:=bk_ h1
   cases hb:Nat.beq n 0 with
   |true=>rw[hb]at h2;cases h2
   |false=>
    rw[hb]at h2
    cases h2
    exact V5_ hop hx hf hn (Nat.ne_of_beq_eq_false hb)
  ·rename_i b0 o0 i0 hx
   obtain⟨fd,hf,h1⟩:=bk_ h
   obtain⟨n,hn,h2⟩:=bk_ h1
   cases hb:Nat.beq n 0 with
   |true=>rw[hb]at h2;cases h2
   |false=>
    rw[hb]at h2
    cases h2
    exact O5_ hop hx hf hn (Nat.ne_of_beq_eq_false hb)
  ·cases h
 |field t x i=>
  simp only[hop]at h
  split at h
  ·rename_i cs hx
   obtain⟨fd,hf,h1⟩:=bk_ h
   obtain⟨v,hv,h2⟩:=bk_ h1
   cases h2
   exact ail_ hop hx hf hv
  ·cases h
 |indexAddr t x i=>
  simp only[hop]at h
  split at h
  ·rename_i k i' hi
   obtain⟨d,hd,h1⟩:=bk_ h
   split at h1
   ·rename_i e b0 o0 n c hx
    obtain⟨s,hs,h2⟩:=bk_ h1
    obtain⟨hc,h3⟩:=ck_ h2
    cases h3
    exact V4_ hop hi hd hx hs (v5_ hc)
   ·rename_i e b0 i0 n c hx
    obtain⟨s,hs,h2⟩:=bk_ h1
    split at h2
    ·rename_i own es lo m elem hg
     obtain⟨hes,h3⟩:=ck_ h2
     obtain⟨hc,h3⟩:=ck_ h3
     cases h3
     have:=Nat.eq_of_beq_eq_true hes
     subst this
     exact O4_ hop hi hd hx hs (v5_ hc) hg
    ·cases h2
   ·rename_i n e b0 o0 hx
    obtain⟨s,hs,h2⟩:=bk_ h1
    obtain⟨hc,h3⟩:=ck_ h2
    cases h3
    exact A1_ hop hi hd hx hs (v5_ hc)
   ·rename_i n e b0 o0 i0 hx
    obtain⟨s,hs,h2⟩:=bk_ h1
    obtain⟨hc,h3⟩:=ck_ h2
    cases h3
    exact w9_ hop hi hd hx hs (v5_ hc)
   ·cases h1
  ·cases h
 |index t x i=>
  simp only[hop]at h
  split at h
  ·rename_i k i' s hi hx
   obtain⟨d,hd,h1⟩:=bk_ h
   split at h1
   ·split at h1
    ·rename_i b hb
     cases h1
     exact op_index_str hop hi hx hd hb
    ·cases h1
   ·cases h1
  ·rename_i k i' cs hi hx
   obtain⟨d,hd,h1⟩:=bk_ h
   split at h1
   ·obtain⟨s,hs,h2⟩:=bk_ h1
    obtain⟨hc,h3⟩:=ck_ h2
    obtain⟨v,hv,h4⟩:=bk_ h3
    cases h4
    exact V3_ hop hi hx hd hs (v5_ hc) hv
   ·cases h1
  ·cases h
 |lookup t x i ok=>
  simp only[hop]at h
  obtain⟨d,hd,h1⟩:=bk_ h
  split at h1
  ·rename_i kt et
   split at h1
   ·rename_i kk vk es hm
    obtain⟨v,hv,h2⟩:=bk_ h1
    cases h2
    exact acU_ hop hd hm hv
   ·obtain⟨kd,hk,h1⟩:=bk_ h1
    obtain⟨es,hm,h2⟩:=bk_ h1
    obtain⟨u,hu,h3⟩:=bk_ h2
    obtain⟨q,hq,h4⟩:=bk_ h3
    obtain⟨z,hz,h5⟩:=bk_ h4
    cases h5
    exact afp_ hop hd ⟨kd,hk⟩ hm hu hq hz
  ·cases h1
 |mapUpdate t m k x=>
  simp only[hop]at h
  obtain⟨d,hd,h1⟩:=bk_ h
  split at h1
  ·obtain⟨kd,hk,h1⟩:=bk_ h1
   split at h1
   ·rename_i b hm
    split at h1
    ·rename_i es clock hg
     obtain⟨u,hu,h2⟩:=bk_ h1
     obtain⟨q,hq,h3⟩:=bk_ h2
     exact z0_ (.inl hop) hd ⟨kd,hk⟩ hm hg hu h3 hq
    ·rename_i kk vk es hg
     obtain⟨o',ho,h2⟩:=bk_ h1
     cases h2
     exact K0_ (.inl hop) hd hm hg ho
    ·cases h1
   ·cases h1
  ·cases h1
 |insert t m k x=>
  simp only[hop]at h
  obtain⟨d,hd,h1⟩:=bk_ h
  split at h1
  ·obtain⟨kd,hk,h1⟩:=bk_ h1
   split at h1
   ·rename_i b hm
    split at h1
    ·rename_i es clock hg
     obtain⟨u,hu,h2⟩:=bk_ h1
     obtain⟨q,hq,h3⟩:=bk_ h2
     exact z0_ (.inr hop) hd ⟨kd,hk⟩ hm hg hu h3 hq
    ·rename_i kk vk es hg
     obtain⟨o',ho,h2⟩:=bk_ h1
     cases h2
     exact K0_ (.inr hop) hd hm hg ho
    ·cases h1
   ·cases h1
  ·cases h1
 |typeAssert x xt t ok=>
  simp only[hop]at h
  obtain⟨d,hd,h1⟩:=bk_ h
  split at h1
  ·cases h1
  ·rename_i hne hx
   refine op_typeAssert hop hd (fun m e=>hne m e) ?_
   rw[hx];exact h1
  ·rename_i t' v hne hx
   refine op_typeAssert hop hd (fun m e=>hne m e) ?_
   rw[hx];exact h1
  ·cases h1
 |extract t i=>
  simp only[hop]at h
  split at h
  ·rename_i vs hx
   obtain⟨v,hv,h1⟩:=bk_ h
   cases h1
   exact acV_ hop hx (O9_ hv)
  ·cases h
 |call c=>
  simp only[hop]at h
  obtain⟨callee,⟨args⟩,⟨ts⟩⟩:=c
  split at h
  ·rename_i b hb
   simp only at hb
   subst hb
   exact op_builtin hop h
  ·rename_i g hb
   simp only at hb
   subst hb
   split at h
   ·rename_i fn a b hg
    exact op_callValue hop hg h
   ·cases h
  ·cases h
 |defer c=>
  simp only[hop]at h
  obtain⟨callee,⟨args⟩,ts⟩:=c
  split at h
  ·rename_i g hb
   simp only at hb
   subst hb
   split at h
   ·rename_i fn a b hg
    cases h
    exact op_defer hop hg
   ·cases h
  ·cases h
 |panic x=>
  simp only[hop]at h
  split at h
  ·rename_i t v hx;cases h;exact aik_ hop hx
  ·cases h
 |_=>simp only[hop]at h;cases h
structure It where
 s:Nat
 e:Nat
 hb:Mem
 ha:Mem
 dst:Option Nat
 v:Value
 looks:List Nat
def It.dom(i:It)(x:Nat):Prop:=(∃o,i.hb x=some o)∨(i.s≤x∧x<i.e)
instance It.decDom (i:It) (x:Nat):Decidable (i.dom x):=decidable_of_iff ((i.hb x).isSome=true∨(i.s≤x∧x<i.e)) (by
 unfold It.dom
 rw[Option.isSome_iff_exists])
def It.upd(i:It)(g:Mem):Mem:=fun x=>if i.dom x then i.ha x else g x
def gK(it:Nat→It)(g0:Mem)(L:Nat→Bool):Nat→Mem
 |0=>g0
 |k+1=>if L k then(it k).upd (gK it g0 L k)else gK it g0 L k
def slK(it:Nat→It)(s0:Nat→Option Value)(L:Nat→Bool):Nat→Nat→Option Value
 |0=>s0
 |k+1=>fun t=>if L k=true∧(it k).dst=some t then some (it k).v else slK it s0 L k t
def allL:Nat→Bool:=fun _=>true
theorem akd_(it:Nat→It)(g0:Mem)(k:Nat):gK it g0 allL (k+1)=(it k).upd (gK it g0 allL k):=if_pos rfl
theorem amt_(it:Nat→It)(g0:Mem){L:Nat→Bool}{k:Nat}(h:L k=true):gK it g0 L (k+1)=(it k).upd (gK it g0 L k):=if_pos h
theorem acc_(it:Nat→It)(g0:Mem){L:Nat→Bool}{k:Nat}(h:L k=false):gK it g0 L (k+1)=gK it g0 L k:=if_neg (by rw[h];simp)
structure Run (it:Nat→It) (n:Nat) (g0:Mem) (anc:Nat→Nat→Prop):Prop where
 le: ∀k,k<n→(it k).s≤(it k).e
 mono: ∀i j,i<j→j<n→(it i).e≤(it j).s
 sub: ∀k,k<n→ ∀x o,(it k).hb x=some o→gK it g0 allL k x=some o
 low: ∀k,k<n→ ∀x o,(it k).hb x=some o→x<(it k).s
 ind: ∀i j,i<j→j<n→ ¬anc j i→ ∀x o,(it j).hb x=some o→ ¬((it i).s≤x∧x<(it i).e)∧ ∀o',(it i).hb x=some o'→(it i).ha x=(it i).hb x∧(it j).ha x=(it j).hb x
 slots: ∀i j,i<j→j<n→ ¬anc j i→(∀t,(it i).dst=some t→t∉(it j).looks∧(it j).dst≠some t)∧(∀t,(it j).dst=some t→t∉(it i).looks)
def Down(n:Nat)(anc:Nat→Nat→Prop)(L:Nat→Bool):Prop:= ∀j,j<n→L j=true→ ∀i,i<j→anc j i→L i=true
def addL(L:Nat→Bool)(j:Nat):Nat→Bool:=fun i=>if i=j then true else L i
theorem Run.ahead{it:Nat→It}{n:Nat}{g0:Mem}{anc:Nat→Nat→Prop}(R:Run it n g0 anc){L:Nat→Bool}{i:Nat}(hi:i<n)(hL: ∀k,k<i→anc i k→L k=true){x:Nat}{o:AObj}(hx:(it i).hb x=some o): ∀k,k≤i→gK it g0 L k x=gK it g0 allL k x:=by
 intro k
 induction k with
 |zero=>intro _;rfl
 |succ k ih=>
  intro hk
  have h1:=ih (by omega)
  rw[akd_]
  cases hl:L k with
  |true=>
   rw[amt_ it g0 hl]
   simp only[It.upd]
   split
   ·rfl
   ·exact h1
  |false=>
   rw[acc_ it g0 hl]
   have hna: ¬anc i k:=fun h=>by rw[hL k (by omega) h]at hl;cases hl
   obtain⟨a1,a2⟩:=R.ind k i (by omega) hi hna x o hx
   rw[h1]
   simp only[It.upd]
   split
   ·rename_i hd
    rcases hd with⟨o',hd⟩|hd
    ·rw[(a2 o' hd).1,hd]
     exact R.sub k (by omega) x o' hd
    ·exact absurd hd a1
   ·rfl
theorem Run.at{it:Nat→It}{n:Nat}{g0:Mem}{anc:Nat→Nat→Prop}(R:Run it n g0 anc){L:Nat→Bool}{j:Nat}(hj:j<n)(hLj:L j=false)(hD:Down n anc L)(hL: ∀k,k<j→anc j k→L k=true){x:Nat}{o:AObj}(hx:(it j).hb x=some o): ∀k,j≤k→k≤n→gK it g0 L k x=some o:=by
 have h0:gK it g0 L j x=some o:=(R.ahead hj hL hx j (Nat.le_refl _)).trans (R.sub j hj x o hx)
 intro k hjk
 induction k with
 |zero=>intro _;have:j=0:=by omega
        subst this;exact h0
 |succ k ih=>
  intro hk
  by_cases he:j=k+1
  ·subst he;exact h0
  ·have h1:=ih (by omega) (by omega)
   simp only[gK]
   cases hl:L k with
   |false=>simpa using h1
   |true=>
    simp only[if_true,It.upd]
    have hkj:j<k:=by
     rcases Nat.lt_or_ge j k with h|h
     ·exact h
     ·have:j=k:=by omega
      subst this;rw[hLj]at hl;cases hl
    have hna: ¬anc k j:=fun h=>by rw[hD k (by omega) hl j hkj h]at hLj;cases hLj
    split
    ·rename_i hd
     rcases hd with⟨o',hd⟩|hd
     ·obtain⟨_,a2⟩:=R.ind j k hkj (by omega) hna x o' hd
      obtain⟨b1,b2⟩:=a2 o hx
      rw[b2,hd]
      have h3:=R.ahead (L:=L) (i:=k) (by omega) (fun i h4 h5=>hD k (by omega) hl i h4 h5) hd k (Nat.le_refl _)
      rw[R.sub k (by omega) x o' hd,h1]at h3
      exact h3.symm
     ·have:=R.low j hj x o hx
      have:=R.mono j k hkj (by omega)
      have:=R.le j hj
      omega
    ·exact h1
theorem Run.add{it:Nat→It}{n:Nat}{g0:Mem}{anc:Nat→Nat→Prop}(R:Run it n g0 anc){L:Nat→Bool}{j:Nat}(hj:j<n)(hLj:L j=false)(hD:Down n anc L)(hL: ∀k,k<j→anc j k→L k=true): ∀k,k≤n→gK it g0 (addL L j) k=if j<k then(it j).upd (gK it g0 L k)else gK it g0 L k:=by
 intro k
 induction k with
 |zero=>intro _;rw[if_neg (by omega)];rfl
 |succ k ih=>
  intro hk
  have h1:=ih (by omega)
  rcases Nat.lt_trichotomy k j with hkj|hkj|hkj
  ·rw[if_neg (by omega)]at h1 ⊢
   simp only[gK,addL,if_neg (show k≠j by omega)]
   rw[h1]
  ·subst hkj
   rw[if_neg (by omega)]at h1
   rw[if_pos (by omega)]
   simp only[gK,addL,if_true,hLj,Bool.false_eq_true,if_false]
   rw[h1]
  ·rw[if_pos hkj]at h1
   rw[if_pos (by omega)]
   simp only[gK,addL,if_neg (show k≠j by omega)]
   rw[h1]
   cases hl:L k with
   |false=>simp
   |true=>
    simp only[if_true]
    have hna: ¬anc k j:=fun h=>by rw[hD k (by omega) hl j hkj h]at hLj;cases hLj
    funext x
    simp only[It.upd]
    by_cases hk1:(it k).dom x
    ·by_cases hj1:(it j).dom x
     ·rw[if_pos hk1,if_pos hj1]
      rcases hk1 with⟨o',hk1⟩|hk1
      ·obtain⟨a1,a2⟩:=R.ind j k hkj (by omega) hna x o' hk1
       rcases hj1 with⟨o,hj1⟩|hj1
       ·obtain⟨b1,b2⟩:=a2 o hj1
        rw[b1,b2,hk1,hj1]
        have h3:=R.ahead (L:=L) (i:=k) (by omega) (fun i h4 h5=>hD k (by omega) hl i h4 h5) hk1 k (Nat.le_refl _)
        rw[R.sub k (by omega) x o' hk1,R.at hj hLj hD hL hj1 k (by omega) (by omega)]at h3
        exact h3.symm
       ·exact absurd hj1 a1
      ·exfalso
       have m1:=R.mono j k hkj (by omega)
       have m2:=R.le j hj
       rcases hj1 with⟨o,hj1⟩|hj1
       ·have:=R.low j hj x o hj1;omega
       ·omega
     ·rw[if_pos hk1,if_neg hj1,if_pos hk1]
    ·rw[if_neg hk1]
     by_cases hj1:(it j).dom x
     ·rw[if_pos hj1,if_pos hj1]
     ·rw[if_neg hj1,if_neg hj1,if_neg hk1]
theorem Run.slot_prefix{it:Nat→It}{n:Nat}{g0:Mem}{anc:Nat→Nat→Prop}(R:Run it n g0 anc){s0:Nat→Option Value}{L:Nat→Bool}{i t:Nat}(hi:i<n)(hL: ∀k,k<i→anc i k→L k=true)(ht:t∈(it i).looks): ∀k,k≤i→slK it s0 L k t=slK it s0 allL k t:=by
 intro k
 induction k with
 |zero=>intro _;rfl
 |succ k ih=>
  intro hk
  have h1:=ih (by omega)
  simp only[slK,allL,true_and]
  cases hl:L k with
  |true=>simp[h1,allL]
  |false=>
   have hna: ¬anc i k:=fun h=>by rw[hL k (by omega) h]at hl;cases hl
   have hd:(it k).dst≠some t:=fun e=>((R.slots k i (by omega) hi hna).1 t e).1 ht
   simp[hd,h1,allL]
theorem Run.slot_at{it:Nat→It}{n:Nat}{g0:Mem}{anc:Nat→Nat→Prop}(R:Run it n g0 anc){s0:Nat→Option Value}{L:Nat→Bool}{j t:Nat}(hj:j<n)(hLj:L j=false)(hD:Down n anc L)(hL: ∀k,k<j→anc j k→L k=true)(ht:t∈(it j).looks): ∀k,j≤k→k≤n→slK it s0 L k t=slK it s0 allL j t:=by
 have h0:=R.slot_prefix (s0:=s0) hj hL ht j (Nat.le_refl _)
 intro k hjk
 induction k with
 |zero=>intro _;have:j=0:=by omega
        subst this;exact h0
 |succ k ih=>
  intro hk
  by_cases he:j=k+1
  ·subst he;exact h0
  ·have h1:=ih (by omega) (by omega)
   simp only[slK]
   cases hl:L k with
   |false=>simpa using h1
   |true=>
    have hkj:j<k:=by
     rcases Nat.lt_or_ge j k with h|h
     ·exact h
     ·have:j=k:=by omega
      subst this;rw[hLj]at hl;cases hl
    have hna: ¬anc k j:=fun h=>by rw[hD k (by omega) hl j hkj h]at hLj;cases hLj
    have hd:(it k).dst≠some t:=fun e=>(R.slots j k hkj (by omega) hna).2 t e ht
    simp[hd,h1]
theorem Run.slot_add{it:Nat→It}{n:Nat}{g0:Mem}{anc:Nat→Nat→Prop}(R:Run it n g0 anc){s0:Nat→Option Value}{L:Nat→Bool}{j:Nat}(hj:j<n)(hLj:L j=false)(hD:Down n anc L): ∀k,k≤n→ ∀t,slK it s0 (addL L j) k t=if j<k∧(it j).dst=some t then some (it j).v else slK it s0 L k t:=by
 intro k
 induction k with
 |zero=>intro _ t;rw[if_neg (by omega)];rfl
 |succ k ih=>
  intro hk t
  have h1:=ih (by omega) t
  have h1':=h1
  rcases Nat.lt_trichotomy k j with hkj|hkj|hkj
  ·rw[if_neg (by omega)]at h1' ⊢
   simp only[slK,addL,if_neg (show k≠j by omega)]
   rw[h1']
  ·subst hkj
   rw[if_neg (by omega)]at h1'
   simp only[slK,addL,if_true,hLj,true_and,Bool.false_eq_true,false_and,if_false]
   rw[h1']
   by_cases hd:(it k).dst=some t
   ·rw[if_pos hd,if_pos ⟨by omega,hd⟩]
   ·rw[if_neg hd,if_neg (by simp[hd])]
  ·simp only[slK,addL,if_neg (show k≠j by omega)]
   rw[h1']
   by_cases hd:(it j).dst=some t
   ·have e1:j<k+1:=by omega
    simp only[hd,hkj,e1,and_self,if_true]
    cases hl:L k with
    |false=>simp
    |true=>
     have hna: ¬anc k j:=fun h=>by rw[hD k (by omega) hl j hkj h]at hLj;cases hLj
     have:=((R.slots j k hkj (by omega) hna).1 t hd).2
     simp[this]
   ·simp only[hd,and_false,if_false]
end Go.Proofs.YtachglcffimmeaaGreat.Ev
