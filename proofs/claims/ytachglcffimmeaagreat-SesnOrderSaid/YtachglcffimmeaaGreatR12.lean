/-
  The evaluator where values are left open: code and functions.
-/
import Derived.Test.YtachglcffimmeaaGreatR11
set_option linter.unusedVariables false
set_option linter.unusedSimpArgs false
namespace Go.Proofs.YtachglcffimmeaaGreat.Ev
open Go
abbrev n8_:=FuncId→List Value→ASt→(AE→ASt→Prop)→Prop
abbrev Kt:=AX→AFr→ASt→Prop
def w1_(self:Self)(sk:n8_):Prop:= ∀g args st K,sk g args st K→ ∃r st',self g args st= .ok (r,st')∧K r st'
def AFr.tell(f:AFr)(d:Nat)(b:Bool):AFr:=⟨f.n,f.tmps.set d (some (.bool b)),f.defers⟩
theorem Tr.put_same{α:Type}: ∀(f:Nat) (t:Tr α) (k:Nat) (v:α),t.get k=some v→Tr.put f t k (some v)=t:=by
 intro f
 induction f with
 |zero=>intro t k v h;rfl
 |succ f ih=>
  intro t k v h
  cases t with
  |leaf=>cases h
  |node u l r=>
   simp only[Tr.put]
   simp only[Tr.get]at h
   cases hk:Nat.beq k 0 with
   |true=>rw[hk]at h;simp only[cond_true]at h ⊢;rw[h]
   |false=>
    rw[hk]at h
    simp only[cond_false]at h ⊢
    cases ho:Nat.beq (k%2) 1 with
    |true=>rw[ho]at h;simp only[cond_true]at h ⊢;rw[ih l _ v h]
    |false=>rw[ho]at h;simp only[cond_false]at h ⊢;rw[ih r _ v h]
theorem AFr.tell_eq{f:AFr}{d:Nat}{b:Bool}(h:f.tmps.get d=some (.bool b)):f.tell d b=f:=by
 unfold AFr.tell Tr.set
 rw[Tr.put_same _ _ _ _ h]
def abY_(ops:List Oper)(f:AFr)(o:Oper)(K1 K0:AFr→Prop):Prop:=match o.guard with
 |none=>K1 f
 |some (j,want)=>match ops[j]? with
  |some oj=>match oj.dst with
   |some d=>match f.tmps.get d with
    |some (.bool b)=>cond want (br b (K1 (f.tell d true)) (K0 (f.tell d false))) (br b (K0 (f.tell d true)) (K1 (f.tell d false)))
    |some (.tuple _)=>K0 f
    |_=>False
   |none=>K0 f
  |none=>K0 f
theorem guardN_ok{ops:List Oper}{f:AFr}{o:Oper}{K1 K0:AFr→Prop}(h:abY_ ops f o K1 K0):(g2_ ops f o=some true∧K1 f)∨(g2_ ops f o=some false∧K0 f):=by
 unfold abY_ at h
 unfold g2_
 split at h
 ·rename_i hg;rw[hg];exact .inl ⟨rfl,h⟩
 ·rename_i j want hg
  rw[hg]
  simp only
  split at h
  ·rename_i oj hj
   rw[hj]
   simp only
   split at h
   ·rename_i d hd
    rw[hd]
    simp only
    split at h
    ·rename_i b hb
     rw[hb]
     cases want with
     |true=>
      rcases br_elim h with⟨rfl,h⟩|⟨rfl,h⟩
      ·rw[AFr.tell_eq hb]at h;exact .inl ⟨rfl,h⟩
      ·rw[AFr.tell_eq hb]at h;exact .inr ⟨rfl,h⟩
     |false=>
      rcases br_elim h with⟨rfl,h⟩|⟨rfl,h⟩
      ·rw[AFr.tell_eq hb]at h;exact .inr ⟨rfl,h⟩
      ·rw[AFr.tell_eq hb]at h;exact .inl ⟨rfl,h⟩
    ·rename_i vs hb;rw[hb];exact .inr ⟨rfl,h⟩
    ·exact h.elim
   ·rename_i hd;rw[hd];exact .inr ⟨rfl,h⟩
  ·rename_i hj;rw[hj];exact .inr ⟨rfl,h⟩
def opK(P:Program)(sk:n8_)(f:AFr)(st:ASt)(o:Oper)(K:Kt):Prop:=opN P f st o fun r=>match r with
 | .val v st'=>L1_ v fun v=>K .normal (f.put o.dst v) st'
 | .enter g args=>sk g args st fun e st'=>match e with
  | .returned v=>L1_ v fun v=>K .normal (f.put o.dst v) st'
  | .panicked v=>K (.panic v) f st'
 | .defer d=>K .normal (({f with defers:=d::f.defers}:AFr).put o.dst undef) st
 | .panic v=>K (.panic v) f st
theorem ajV_{P:Program}{self:Self}{sk:n8_}(hs:w1_ self sk){f:AFr}{st:ASt}{o:Oper}{K:Kt}(h:opK P sk f st o K): ∃x f' st',evOp P self f st o= .ok (x,f',st')∧K x f' st':=by
 obtain⟨r,h1,h2⟩:=ajU_ h
 unfold evOp
 rw[h1]
 cases r with
 |val v st'=>exact⟨_,_,_,rfl,v0_ h2⟩
 |enter g args=>
  obtain⟨r,st',h3,h4⟩:=hs g args st _ h2
  simp only[h3]
  cases r with
  |returned v=>exact⟨_,_,_,rfl,v0_ h4⟩
  |panicked v=>exact⟨_,_,_,rfl,h4⟩
 |defer d=>exact⟨_,_,_,rfl,h2⟩
 |panic v=>exact⟨_,_,_,rfl,h2⟩
def opsK(P:Program)(sk:n8_)(all:List Oper):List Oper→AFr→ASt→Kt→Prop
 |[],f,st,K=>K .normal f st
 |o::rest,f,st,K=>abY_ all f o
  (fun f=>opK P sk f st o fun x f' st'=>match x with
   | .normal=>opsK P sk all rest f' st' K
   |x=>K x f' st')
  (fun f=>opsK P sk all rest (f.put o.dst undef) st K)
theorem afn_{P:Program}{self:Self}{sk:n8_}(hs:w1_ self sk){all:List Oper}: ∀{l:List Oper} {f:AFr} {st:ASt} {K:Kt},opsK P sk all l f st K→ ∃x f' st',evOps P self all l f st= .ok (x,f',st')∧K x f' st':=by
 intro l
 induction l with
 |nil=>intro f st K h;exact⟨_,_,_,rfl,h⟩
 |cons o l ih=>
  intro f st K h
  unfold opsK at h
  unfold evOps
  rcases guardN_ok h with⟨h1,h2⟩|⟨h1,h2⟩
  ·rw[h1]
   obtain⟨x,f',st',h3,h4⟩:=ajV_ hs h2
   simp only[h3]
   cases x with
   |normal=>exact ih h4
   |exit i=>exact⟨_,_,_,rfl,h4⟩
   |ret=>exact⟨_,_,_,rfl,h4⟩
   |panic v=>exact⟨_,_,_,rfl,h4⟩
  ·rw[h1]
   exact ih h2
def valK(P:Program)(sk:n8_)(f:AFr)(st:ASt)(o:Oper)(K:Value→ASt→Prop):Prop:=opN P f st o fun r=>match r with
 | .val v st'=>L1_ v fun v=>K v st'
 | .enter g args=>sk g args st fun e st'=>match e with
  | .returned v=>L1_ v fun v=>K v st'
  | .panicked _=>False
 |_=>False
theorem Z6_{P:Program}{self:Self}{sk:n8_}(hs:w1_ self sk){f:AFr}{st:ASt}{o:Oper}{K:Value→ASt→Prop}(h:valK P sk f st o K): ∃v st',P9_ P self f st o= .ok (v,st')∧K v st':=by
 obtain⟨r,h1,h2⟩:=ajU_ h
 unfold P9_
 rw[h1]
 cases r with
 |val v st'=>exact⟨_,_,rfl,v0_ h2⟩
 |enter g args=>
  obtain⟨r,st',h3,h4⟩:=hs g args st _ h2
  simp only[h3]
  cases r with
  |returned v=>exact⟨_,_,rfl,v0_ h4⟩
  |panicked v=>exact h4.elim
 |defer d=>exact h2.elim
 |panic v=>exact h2.elim
def aaL_(P:Program)(sk:n8_)(all:List Oper):List (Oper×Nat)→Nat→List Rec→AFr→ASt→Kt→Prop
 |[],_,_,f,st,K=>K .normal f st
 |(o,m)::rest,j,recs,f,st,K=>abY_ all f o
  (fun f=>
  let next (fp:Option (List Nat)) (v:Value) (st':ASt):Prop:=
   cond (z5_ m recs (!(Nat.ble st.next st'.lo)) st'.lo fp)
    (aaL_ P sk all rest (j+1) (cond (noRec fp st.next st'.next) recs (⟨j,st.next,st'.next,!(Nat.ble st.next st'.lo),st'.lo,fp⟩::recs)) (f.put o.dst v)
     ⟨st'.next,j1_ m recs st.h (d1_ m recs st.h fp) st'.h st.next st'.next fp,minN st.lo st'.lo⟩ K)
    False
  let fr:AFr:=⟨f.n,N5_ f (e0_ all o),f.defers⟩
   match cond (ajN_ o.op) (some (ajO_ f o.op)) (fpOf f st.h o.op)with
    |some l=>valK P sk fr ⟨st.next,d1_ m recs st.h (some l),big⟩ o fun v st'=>next (some l) v st'
    |none=>valK P sk fr ⟨st.next,d1_ m recs st.h none,big⟩ o fun v st'=>cond (Nat.ble st.next st'.lo) (next none v st')
      (let l:=N8_ st.h 100000 ((o.op.operands.toList.map f.ev).flatMap (idsV 4)) .leaf []
       valK P sk fr ⟨st.next,d1_ m recs st.h (some l),big⟩ o fun v st'=>next (some l) v st'))
  (fun f=>aaL_ P sk all rest (j+1) recs (f.put o.dst undef) st K)
theorem acl_{P:Program}{self:Self}{sk:n8_}(hs:w1_ self sk){all:List Oper}: ∀{l:List (Oper×Nat)} {j:Nat} {recs:List Rec} {f:AFr} {st:ASt} {K:Kt},aaL_ P sk all l j recs f st K→ ∃x f' st',r8_ P self all l j recs f st= .ok (x,f',st')∧K x f' st':=by
 intro l
 induction l with
 |nil=>intro j recs f st K h;exact⟨_,_,_,rfl,h⟩
 |cons om l ih=>
  intro j recs f st K h
  obtain⟨o,m⟩:=om
  unfold aaL_ at h
  unfold r8_
  simp only at h ⊢
  have next: ∀(fp:Option (List Nat)) (v:Value) (st':ASt),
    cond (z5_ m recs (!(Nat.ble st.next st'.lo)) st'.lo fp) (aaL_ P sk all l (j+1) (cond (noRec fp st.next st'.next) recs (⟨j,st.next,st'.next,!(Nat.ble st.next st'.lo),st'.lo,fp⟩::recs)) (f.put o.dst v) ⟨st'.next,j1_ m recs st.h (d1_ m recs st.h fp) st'.h st.next st'.next fp,minN st.lo st'.lo⟩ K) False→
    ∃x f' st'',(cond (z5_ m recs (!(Nat.ble st.next st'.lo)) st'.lo fp) (r8_ P self all l (j+1) (cond (noRec fp st.next st'.next) recs (⟨j,st.next,st'.next,!(Nat.ble st.next st'.lo),st'.lo,fp⟩::recs)) (f.put o.dst v) ⟨st'.next,j1_ m recs st.h (d1_ m recs st.h fp) st'.h st.next st'.next fp,minN st.lo st'.lo⟩) (.er "draw: not apart" o.pos))= .ok (x,f',st'')∧K x f' st'':=by
   intro fp v st' h
   cases hb:z5_ m recs (!(Nat.ble st.next st'.lo)) st'.lo fp with
   |true=>rw[hb]at h;exact ih h
   |false=>rw[hb]at h;exact h.elim
  rcases guardN_ok h with⟨h1,h2⟩|⟨h1,h2⟩
  ·rw[h1]
   simp only
   split at h2
   ·rename_i l' hl
    obtain⟨v,st',h3,h4⟩:=Z6_ hs h2
    simp only[hl,h3]
    exact next _ v st' h4
   ·rename_i hl
    obtain⟨v,st',h3,h4⟩:=Z6_ hs h2
    simp only[hl,h3]
    cases hb:Nat.ble st.next st'.lo with
    |true=>
     rw[hb]at h4
     simp only[cond_true]at h4 ⊢
     have:=next none v st' (by rw[hb];exact h4)
     rw[hb]at this
     exact this
    |false=>
     rw[hb]at h4
     simp only[cond_false]at h4 ⊢
     obtain⟨v2,st2,h5,h6⟩:=Z6_ hs h4
     simp only[h5]
     exact next _ v2 st2 h6
  ·rw[h1]
   exact ih h2
def aiJ_(g:AFr→ASt→Kt→Prop):Nat→AFr→ASt→Kt→Prop
 |0,_,_,_=>False
 |n+1,f,st,K=>g f st fun x f' st'=>match x with
  | .normal=>aiJ_ g n f' st' K
  |x=>K x f' st'
def n4_(P:Program)(sk:n8_)(fuel:Nat):Code→AFr→ASt→Kt→Prop
 | .skip,f,st,K=>K .normal f st
 | .region _ ops draw,f,st,K=>cond draw (cond (g3_ ops.toList) (aaL_ P sk ops.toList (ops.toList.zip (ancL ops.toList [])) 0 [] f st K) False) (opsK P sk ops.toList ops.toList f st K)
 | .seq a b,f,st,K=>n4_ P sk fuel a f st fun x f' st'=>match x with
  | .normal=>n4_ P sk fuel b f' st' K
  |x=>K x f' st'
 | .cond c a b,f,st,K=>match c with
  | .tmp t=>match f.tmps.get t with
   |some (.bool q)=>br q (n4_ P sk fuel a (f.tell t true) st K) (n4_ P sk fuel b (f.tell t false) st K)
   |_=>False
  |c=>match f.ev c with
   | .bool q=>br q (n4_ P sk fuel a f st K) (n4_ P sk fuel b f st K)
   |_=>False
 | .block id c,f,st,K=>n4_ P sk fuel c f st fun x f' st'=>match x with
  | .exit i=>cond (Nat.beq i id) (K .normal f' st') (K (.exit i) f' st')
  |x=>K x f' st'
 | .loop c,f,st,K=>aiJ_ (n4_ P sk fuel c) fuel f st K
 | .exit id,f,st,K=>K (.exit id) f st
 | .ret,f,st,K=>K .ret f st
 |_,_,_,_=>False
theorem C0_{P:Program}{self:Self}{sk:n8_}(hs:w1_ self sk){fuel:Nat}: ∀{c:Code} {f:AFr} {st:ASt} {K:Kt},n4_ P sk fuel c f st K→ ∃x f' st',d3_ P self fuel c f st= .ok (x,f',st')∧K x f' st':=by
 intro c
 induction c with
 |skip=>intro f st K h;exact⟨_,_,_,rfl,h⟩
 |region id ops draw=>
  intro f st K h
  simp only[n4_]at h
  simp only[d3_,Q0_]
  cases draw with
  |true=>
   simp only[cond_true]at h ⊢
   cases hb:g3_ ops.toList with
   |true=>rw[hb]at h;exact acl_ hs h
   |false=>rw[hb]at h;exact h.elim
  |false=>exact afn_ hs h
 |seq a b iha ihb=>
  intro f st K h
  simp only[n4_]at h
  obtain⟨x,f',st',h1,h2⟩:=iha h
  simp only[d3_,h1]
  cases x with
  |normal=>exact ihb h2
  |exit i=>exact⟨_,_,_,rfl,h2⟩
  |ret=>exact⟨_,_,_,rfl,h2⟩
  |panic v=>exact⟨_,_,_,rfl,h2⟩
 |cond c a b iha ihb=>
  intro f st K h
  simp only[n4_]at h
  simp only[d3_]
  split at h
  ·rename_i t
   split at h
   ·rename_i q hq
    have hfe:f.ev (.tmp t)= .bool q:=by simp only[AFr.ev,AFr.tmp,hq]
    rcases br_elim h with⟨rfl,h⟩|⟨rfl,h⟩
    ·rw[AFr.tell_eq hq]at h;simp only[hfe];exact iha h
    ·rw[AFr.tell_eq hq]at h;simp only[hfe];exact ihb h
   ·exact h.elim
  ·split at h
   ·rename_i q hq
    rcases br_elim h with⟨rfl,h⟩|⟨rfl,h⟩
    ·simp only[hq];exact iha h
    ·simp only[hq];exact ihb h
   ·exact h.elim
 |block id c ih=>
  intro f st K h
  simp only[n4_]at h
  obtain⟨x,f',st',h1,h2⟩:=ih h
  simp only[d3_,h1]
  cases x with
  |normal=>exact⟨_,_,_,rfl,h2⟩
  |exit i=>
   simp only at h2 ⊢
   cases hb:Nat.beq i id with
   |true=>rw[hb]at h2;exact⟨_,_,_,rfl,h2⟩
   |false=>rw[hb]at h2;exact⟨_,_,_,rfl,h2⟩
  |ret=>exact⟨_,_,_,rfl,h2⟩
  |panic v=>exact⟨_,_,_,rfl,h2⟩
 |loop c ih=>
  intro f st K h
  simp only[n4_]at h
  simp only[d3_]
  have key: ∀(n:Nat) (f:AFr) (st:ASt),aiJ_ (n4_ P sk fuel c) n f st K→ ∃x f' st',iter (d3_ P self fuel c) n f st= .ok (x,f',st')∧K x f' st':=by
   intro n
   induction n with
   |zero=>intro f st h;exact h.elim
   |succ n ihn=>
    intro f st h
    simp only[aiJ_]at h
    obtain⟨x,f',st',h1,h2⟩:=ih h
    simp only[iter,h1]
    cases x with
    |normal=>exact ihn _ _ h2
    |exit i=>exact⟨_,_,_,rfl,h2⟩
    |ret=>exact⟨_,_,_,rfl,h2⟩
    |panic v=>exact⟨_,_,_,rfl,h2⟩
  exact key fuel f st h
 |exit id=>intro f st K h;exact⟨_,_,_,rfl,h⟩
 |ret=>intro f st K h;exact⟨_,_,_,rfl,h⟩
 |_=>intros;rename_i h;exact h.elim
abbrev acw_:=FuncId→List Value→Option Value→ASt→(Option Value→ASt→Prop)→Prop
def adg_(P:Program)(fn:Func)(p:Option Value)(K:Option Value→ASt→Prop)(x:AX)(f:AFr)(st:ASt):Prop:=match x with
 | .normal| .ret=>(match f.defers with
  |[]=>rsK (u0_ P fn st f) fun _=>K p st
  |_=>False)
 |_=>False
def evDK(P:Program)(sk:n8_)(fuel:Nat):acw_:=fun g args p st K=>match P.funcs.toList[g]? with
 |some fn=>match fn.body with
  |some body=>match body with
   | .seq (.region id ops false) c2=>match ops.toList with
    |o::l=>cond (p1_ o)
     (opsK P sk (o::l) l ((⟨maxN args.length fn.ntmps,s9_ args 0 .leaf,[]⟩:AFr).put o.dst (E5_ p)) st fun x f' st'=>match x with
      | .normal=>n4_ P sk fuel c2 f' st' (adg_ P fn none K)
      |x=>adg_ P fn none K x f' st')
     (n4_ P sk fuel body ⟨maxN args.length fn.ntmps,s9_ args 0 .leaf,[]⟩ st (adg_ P fn p K))
    |[]=>False
   |body=>n4_ P sk fuel body ⟨maxN args.length fn.ntmps,s9_ args 0 .leaf,[]⟩ st (adg_ P fn p K)
  |none=>False
 |none=>False
theorem r4_{P:Program}{fn:Func}{p:Option Value}{K:Option Value→ASt→Prop}{x:AX}{f:AFr}{st:ASt}(h:adg_ P fn p K x f st): ∃p' st',finD P fn p (.ok (x,f,st))= .ok (p',st')∧K p' st':=by
 unfold adg_ at h
 split at h
 ·split at h
  ·rename_i hd
   obtain⟨v,h1,h2⟩:=rK_ h
   exact⟨p,st,by simp only[finD,hd,h1,Rs.bnd],h2⟩
  ·exact h.elim
 ·split at h
  ·rename_i hd
   obtain⟨v,h1,h2⟩:=rK_ h
   exact⟨p,st,by simp only[finD,hd,h1,Rs.bnd],h2⟩
  ·exact h.elim
 ·exact h.elim
theorem aaI_{P:Program}{self:Self}{sk:n8_}(hs:w1_ self sk){fuel:Nat}{g:FuncId}{args:List Value}{p:Option Value}{st:ASt}{K:Option Value→ASt→Prop}(h:evDK P sk fuel g args p st K):
  ∃p' st',evD P self fuel g args p st= .ok (p',st')∧K p' st':=by
 unfold evDK at h
 unfold evD
 split at h
 ·rename_i fn hfn
  rw[hfn]
  simp only
  split at h
  ·rename_i body hb
   rw[hb]
   simp only
   split at h
   ·rename_i id ops c2
    split at h
    ·rename_i o l hol
     dsimp only
     rw[hol]
     dsimp only
     cases hr:p1_ o with
     |true=>
      rw[hr]at h
      simp only[cond_true]at h ⊢
      obtain⟨x,f',st',h1,h2⟩:=afn_ hs h
      rw[h1]
      cases x with
      |normal=>
       obtain⟨x2,f2,st2,h3,h4⟩:=C0_ hs h2
       simp only[h3]
       exact r4_ h4
      |exit i=>exact r4_ h2
      |ret=>exact r4_ h2
      |panic v=>exact r4_ h2
     |false=>
      rw[hr]at h
      simp only[cond_false]at h ⊢
      obtain⟨x,f',st',h1,h2⟩:=C0_ hs h
      rw[h1]
      exact r4_ h2
    ·exact h.elim
   ·rename_i body' hne
    obtain⟨x,f',st',h1,h2⟩:=C0_ hs h
    obtain⟨p',st2,h3,h4⟩:=r4_ h2
    refine⟨p',st2,?_,h4⟩
    split
    ·exact(hne _ _ _ rfl).elim
    ·rw[h1]
     exact h3
  ·exact h.elim
 ·exact h.elim
def leaveK(P:Program)(sd:acw_)(fn:Func)(f:AFr):List ADef→Option Value→ASt→(AE→ASt→Prop)→Prop
 |[],none,st,K=>rsK (u0_ P fn st f) fun v=>K (.returned v) st
 |[],some v,st,K=>K (.panicked v) st
 |d::ds,p,st,K=>rsK (aInvoke P d.fn d.args d.cap st) fun r=>match r with
  | .enter g args=>sd g args p st fun p' st''=>leaveK P sd fn f ds p' st'' K
  |_=>False
theorem G1_{P:Program}{selfD:FuncId→List Value→Option Value→ASt→Rs (Option Value×ASt)}{sd:acw_}(hs: ∀g args p st K,sd g args p st K→ ∃p' st',selfD g args p st= .ok (p',st')∧K p' st'){fn:Func}{f:AFr}:
  ∀{ds:List ADef} {p:Option Value} {st:ASt} {K:AE→ASt→Prop},leaveK P sd fn f ds p st K→ ∃r st',x3_ P selfD fn f ds p st= .ok (r,st')∧K r st':=by
 intro ds
 induction ds with
 |nil=>
  intro p st K h
  cases p with
  |none=>
   obtain⟨v,h1,h2⟩:=rK_ h
   exact⟨_,_,by simp only[x3_,h1,Rs.bnd],h2⟩
  |some v=>exact⟨_,_,rfl,h⟩
 |cons d ds ih=>
  intro p st K h
  unfold leaveK at h
  obtain⟨r,h1,h2⟩:=rK_ h
  unfold x3_
  rw[h1]
  split at h2
  ·obtain⟨p',st',h3,h4⟩:=hs _ _ _ _ _ h2
   simp only[h3]
   exact ih h4
  ·exact h2.elim
def endK(P:Program)(sd:acw_)(fn:Func)(K:AE→ASt→Prop)(x:AX)(f:AFr)(st:ASt):Prop:=match x with
 | .normal| .ret=>(match f.defers with
  |[]=>rsK (u0_ P fn st f) fun v=>K (.returned v) st
  |ds=>leaveK P sd fn f ds none st K)
 | .panic v=>(match f.defers with
  |[]=>K (.panicked v) st
  |ds=>leaveK P sd fn f ds (some v) st K)
 | .exit _=>False
def funK(P:Program)(C:Told)(fuel:Nat):Nat→n8_
 |0=>fun _ _ _ _=>False
 |n+1=>fun g args st K=>match C g with
  |some c=>c.sym args st K
  |none=>match P.funcs.toList[g]? with
   |some fn=>match fn.body with
    |some body=>n4_ P (funK P C fuel n) fuel body ⟨maxN args.length fn.ntmps,s9_ args 0 .leaf,[]⟩ st (endK P (evDK P (funK P C fuel n) fuel) fn K)
    |none=>False
   |none=>False
theorem P3_(P:Program)(C:Told)(fuel:Nat): ∀n,w1_ (L3_ P C fuel n) (funK P C fuel n):=by
 intro n
 induction n with
 |zero=>intro g args st K h;exact h.elim
 |succ n ih=>
  intro g args st K h
  simp only[funK]at h
  simp only[L3_]
  split at h
  ·rename_i c hc
   rw[hc]
   exact c.ok args st K h
  ·rename_i hc
   rw[hc]
   simp only[X4_]
   split at h
   ·rename_i fn hfn
    rw[hfn]
    simp only
    split at h
    ·rename_i body hb
     rw[hb]
     simp only
     obtain⟨x,f',st',h1,h2⟩:=C0_ ih h
     rw[h1]
     have main: ∀(p:Option Value),(∀v,p=some v→f'.defers≠[])→(match f'.defers with
       |[]=>rsK (u0_ P fn st' f') fun v=>K (.returned v) st'
       |ds=>leaveK P (evDK P (funK P C fuel n) fuel) fn f' ds p st' K:Prop)→
       ∃r st'',(match f'.defers with
        |[]=>(u0_ P fn st' f').bnd fun v=> .ok (.returned v,st')
        |ds=>x3_ P (evD P (L3_ P C fuel n) fuel) fn f' ds p st':Rs (AE×ASt))= .ok (r,st'')∧K r st'':=by
      intro p hp h
      split at h
      ·obtain⟨v,h3,h4⟩:=rK_ h
       exact⟨_,_,by rw[h3];rfl,h4⟩
      ·exact G1_ (fun g args p st K h=>aaI_ ih h) h
     cases x with
     |normal=>exact main none (fun v e=>by cases e) h2
     |ret=>exact main none (fun v e=>by cases e) h2
     |exit i=>exact h2.elim
     |panic v=>
      simp only[endK]at h2
      simp only
      cases hd:f'.defers with
      |nil=>
       simp only[hd]at h2 ⊢
       exact⟨_,_,rfl,h2⟩
      |cons d ds=>
       simp only[hd]at h2 ⊢
       exact G1_ (fun g args p st K h=>aaI_ ih h) h2
    ·exact h.elim
   ·exact h.elim
def abw_:Value→Bool
 | .int .. | .bool _| .float .. | .string _=>true
 | .tuple vs| .agg vs=>vs.toList.all fun v=>match v with| .int .. | .bool _| .float .. | .string _=>true|_=>false
 |_=>false
theorem VR.scal1{ρ ρ':Rho}{v v':Value}(hs:(match v with| .int .. | .bool _| .float .. | .string _=>true|_=>false)=true)(h:VR ρ v v'):VR ρ' v v':=by
 cases h with
 |bool b=>exact .bool b
 |int k n=>exact .int k n
 |float k b=>exact .float k b
 |nan k b b' h h'=>exact .nan k b b' h h'
 |string s=>exact .string s
 |_=>cases hs
theorem VR.scalar{ρ ρ':Rho}{v v':Value}(hs:abw_ v=true)(h:VR ρ v v'):VR ρ' v v':=by
 cases h with
 |tuple a a' ha h=>
  refine .tuple a a' ha fun i x y hx hy=> ?_
  simp only[Ev.abw_,List.all_eq_true]at hs
  exact VR.scal1 (hs x (by simpa using Array.mem_of_getElem? hx)) (h i x y hx hy)
 |agg a a' ha h=>
  refine .agg a a' ha fun i x y hx hy=> ?_
  simp only[Ev.abw_,List.all_eq_true]at hs
  exact VR.scal1 (hs x (by simpa using Array.mem_of_getElem? hx)) (h i x y hx hy)
 |bool b=>exact .bool b
 |int k n=>exact .int k n
 |float k b=>exact .float k b
 |nan k b b' h h'=>exact .nan k b b' h h'
 |string s=>exact .string s
 |any v=>cases hs
 |_=>cases hs
theorem VRL.scalar{ρ ρ':Rho}{l l':List Value}(hs:l.all abw_=true)(h:VRL ρ l l'):VRL ρ' l l':=
 ⟨h.1,fun i x y hx hy=>VR.scalar (by rw[List.all_eq_true]at hs;exact hs x (List.mem_of_getElem? hx)) (h.2 i x y hx hy)⟩
theorem WR.empty(w:World):WR (fun _=>none) st0.h.get w:=by
 refine⟨?_,?_,?_,?_⟩
 ·intro a s e;cases e
 ·intro a o e;cases e
 ·intro a b oa ob sa sb e;cases e
 ·intro b hb;obtain⟨a,s,e,_⟩:=hb;cases e
theorem Mv.below{ρ:Rho}{g:Mem}{w w':World}(h:WR ρ g w)(n:Nat)(hb:RowKit.Below w.heap.size w w'):Mv ρ ρ g g n n w w':=by
 obtain⟨h1,h2,h3,h4,hh⟩:=hb
 exact⟨Nat.le_refl _,Sub.refl _,fun _ _ h=> .inl h,h4,fun b hb _=>hh b hb,fun _ h=> .inr h,h1,h2,h3,
  ⟨fun a s e hv=>Nat.lt_of_lt_of_le (h.blk a s e hv) h4,fun a o e=>by obtain⟨s,e1,e2⟩:=h.obj a o e;exact⟨s,e1,e2.kept (Sub.refl _) (fun hv=>hh _ (h.blk a s e1 hv)) (fun b hb=>hh b (h.fz b hb).1)⟩,h.inj,fun b hb=>⟨Nat.lt_of_lt_of_le (h.fz b hb).1 h4,(h.fz b hb).2⟩⟩,fun a o h=> .inl ⟨o,h⟩,fun _ _ h _=> .inl h,fun _ h=> .inl h⟩
def isK(v:Value)(r:AE)(_:ASt):Prop:=r= .returned v
theorem y6_{P:Program}{C:Told}{g:FuncId}{args:List Value}{fuel n:Nat}{v:Value}(hm:P.follows .mixedOrders=true)(hC:a8_ P C)(h:funK P C fuel n g args st0 (isK v))(w:World)(args':Array Value)(ha:VRL (fun _=>none) args args'.toList):
  Calls P g args' w fun e w'=>(∃ρ' v',e= .returned v'∧VR ρ' v v')∧RowKit.Below w.heap.size w w':=by
 obtain⟨r,st',h1,h2⟩:=P3_ P C fuel n g args st0 _ h
 unfold isK at h2
 subst h2
 have hwf:Wf st0:=fun x o e=>by cases e
 obtain⟨_,h3⟩:=k3_ hm hC fuel n g args st0 _ st' hwf h1
 refine(h3 (fun _=>none) w args' ha (WR.empty w) (fun _ _ _=>rfl)).mono fun e w' he=> ?_
 obtain⟨ρ',he,hmv⟩:=he
 obtain⟨v',rfl,hv'⟩:=he
 exact⟨⟨ρ',v',rfl,hv'⟩,hmv.os,hmv.tape,hmv.output,hmv.size,fun k hk=>hmv.frm k hk fun⟨a,o,s,e1,_⟩=>by cases e1⟩
def Told.also(C:Told)(g:FuncId)(spec:List Value→Option Value):Told:=fun f=>cond (Nat.beq f g) (some ⟨fun args st=>match spec args with
 |some v=> .ok (.returned v,st)
 |none=> .er "told",fun args st K=>optK (spec args) fun v=>K (.returned v) st,fun args st K h=>by
  obtain⟨v,h1,h2⟩:=F2_ h
  exact⟨_,_,by simp only[h1],h2⟩⟩) (C f)
theorem Told.also_ok{P:Program}{C:Told}{g:FuncId}{spec:List Value→Option Value}(hC:a8_ P C)
  (h: ∀args v,spec args=some v→args.all abw_=true∧abw_ v=true∧ ∀(w:World) (args':Array Value),VRL (fun _=>none) args args'.toList→Calls P g args' w fun e w'=>(∃ρ' v',e= .returned v'∧VR ρ' v v')∧RowKit.Below w.heap.size w w'):
  a8_ P (C.also g spec):=by
 intro f c hc args st r st' hwf hr
 unfold Told.also at hc
 cases hb:Nat.beq f g with
 |false=>rw[hb]at hc;exact hC f c hc args st r st' hwf hr
 |true=>
  rw[hb]at hc
  have:=Nat.eq_of_beq_eq_true hb
  subst this
  simp only[cond_true,Option.some.injEq]at hc
  subst hc
  simp only at hr
  split at hr
  ·rename_i v hv
   cases hr
   obtain⟨h1,h2,h3⟩:=h args v hv
   refine⟨LoS.refl _,fun ρ w args' ha hw hf=>(h3 w args' (ha.scalar h1)).mono fun e w' he=> ?_⟩
   obtain⟨⟨ρ',v',rfl,hv'⟩,hb⟩:=he
   exact⟨ρ,⟨v',rfl,VR.scalar h2 hv'⟩,Mv.below hw _ hb⟩
  ·cases hr
def noTold:Told:=fun _=>none
theorem o8_(P:Program):a8_ P noTold:=fun g c h=>by cases h
end Go.Proofs.YtachglcffimmeaaGreat.Ev
