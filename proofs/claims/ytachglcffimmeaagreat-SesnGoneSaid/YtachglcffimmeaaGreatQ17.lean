/-
  A loop of which a round may end with a panic.
-/
import Derived.Test.YtachglcffimmeaaGreatQ16
set_option linter.unusedVariables false
set_option linter.unusedSimpArgs false
namespace Go.Proofs.YtachglcffimmeaaGreat.Ev
open Go Go.RowKit
def NnP(β:Bs){α:Type}(I:α→Prop)(m:α→Nat)(F:α→AFr)(S:α→ASt)(p:α)(K:Kt):Kt:=fun x f st=>
 Nn β I m F S p K x f st∨ ∃v,x= .panic v∧ground 3 v=true∧ ∃f1 st1,Seen β f st f1 st1∧K (.panic v) f1 st1
theorem K4_{P:Program}{β:Bs}{ex:Nat→Kt→Prop}{b:Nat}{c:Code}{α:Type}(I:α→Prop)(F:α→AFr)(S:α→ASt)(m:α→Nat)
  (h: ∀p,I p→ ∀K,ex b K→J P β c (F p) (S p) (NnP β I m F S p K)): ∀p,I p→LoopJ P β ex b c (F p) (S p):=by
 intro p hp
 refine⟨fun K hK Q ρ a w hr hpost=> ?_⟩
 have fin: ∀{x:AX} {f':AFr} {st':ASt} {ρ':Rho} {e':Exit} {a':Act} {w':World},XR ρ' x e'→Rl β ρ' f' st' a' w'→
   ((x≠ .normal∧(∀v,x≠ .panic v)∧ ∃f1 st1,Seen β f' st' f1 st1∧K x f1 st1)∨ ∃v,x= .panic v∧ground 3 v=true∧ ∃f1 st1,Seen β f' st' f1 st1∧K (.panic v) f1 st1)→x≠ .normal∧Q e' a' w':=by
  intro x f' st' ρ' e' a' w' hxr hr' hx
  rcases hx with⟨hne,hnp,f1,st1,hsn,hx⟩|⟨v,rfl,hg,f1,st1,hsn,hx⟩
  ·obtain⟨ρ2,hr2⟩:=hsn ρ' a' w' hr'
   have hxr2:XR ρ2 x e':=by cases x with|normal=>exact hxr|exit i=>exact hxr|ret=>exact hxr|panic v=>exact absurd rfl (hnp v)
   exact⟨hne,hpost x f1 st1 ρ2 e' a' w' hx hxr2 hr2⟩
  ·obtain⟨ρ2,hr2⟩:=hsn ρ' a' w' hr'
   refine⟨by simp,hpost (.panic v) f1 st1 ρ2 e' a' w' hx ?_ hr2⟩
   obtain⟨v',he',hv'⟩:=hxr
   have:=VR.ground 3 hg hv'
   subst this
   exact⟨v',he',VR.refl 3 hg⟩
 have key: ∀(k:Nat) (p:α),m p≤k→I p→ ∀ρ a w,Rl β ρ (F p) (S p) a w→Code.rounds P c Q (k+1) a w:=by
  intro k
  induction k with
  |zero=>
   intro p hk hp ρ a w hr
   rw[rounds_succ]
   refine h p hp K hK _ ρ a w hr fun x f' st' ρ' e' a' w' hx hxr hr'=> ?_
   rcases hx with(⟨rfl,p',_,h2,_⟩|hx)|hx
   ·omega
   ·have:=fin hxr hr' (.inl hx)
    cases x with
    |normal=>exact absurd rfl this.1
    |exit i=>cases hxr;exact this.2
    |ret=>cases hxr;exact this.2
    |panic v=>obtain⟨v',rfl,_⟩:=hxr;exact this.2
   ·have:=fin hxr hr' (.inr hx)
    cases x with
    |normal=>exact absurd rfl this.1
    |exit i=>cases hxr;exact this.2
    |ret=>cases hxr;exact this.2
    |panic v=>obtain⟨v',rfl,_⟩:=hxr;exact this.2
  |succ k ih=>
   intro p hk hp ρ a w hr
   rw[rounds_succ]
   refine h p hp K hK _ ρ a w hr fun x f' st' ρ' e' a' w' hx hxr hr'=> ?_
   rcases hx with(⟨rfl,p',h1,h2,h3⟩|hx)|hx
   ·cases hxr;obtain⟨ρ2,hr2⟩:=h3 ρ' a' w' hr';exact ih p' (by omega) h1 ρ2 a' w' hr2
   ·have:=fin hxr hr' (.inl hx)
    cases x with
    |normal=>exact absurd rfl this.1
    |exit i=>cases hxr;exact this.2
    |ret=>cases hxr;exact this.2
    |panic v=>obtain⟨v',rfl,_⟩:=hxr;exact this.2
   ·have:=fin hxr hr' (.inr hx)
    cases x with
    |normal=>exact absurd rfl this.1
    |exit i=>cases hxr;exact this.2
    |ret=>cases hxr;exact this.2
    |panic v=>obtain⟨v',rfl,_⟩:=hxr;exact this.2
 exact wp_loop_rounds _ (key (m p) p (Nat.le_refl _) hp ρ a w hr)
theorem Seen.void{β:Bs}{f:AFr}{l:List (Option AObj)}(es:Nat)(e:Nat→Nat→Td):Seen β f (mkS l) f (mkS (l++[some (.row .mine es 0 0 e)])):=by
 intro ρ a w hr
 have hfn:ρ l.length=none:=hr.fresh _ (Nat.le_refl _)
 have m:=Mv.rowVoid (w':=w) (es:=es) (f:=e) hr.wr hfn rfl rfl rfl rfl
 have hg:(mkS (l++[some (.row .mine es 0 0 e)])).h.get=upd (mkS l).h.get l.length (some (.row .mine es 0 0 e)):=by
  funext k
  rw[b5_]
  by_cases hk:k=l.length
  ·subst hk;rw[a1_,List.getElem?_append_right (Nat.le_refl _)];simp
  ·rw[a2_ _ _ hk,b5_]
   rcases Nat.lt_or_ge k l.length with h1|h1
   ·rw[List.getElem?_append_left h1]
   ·rw[List.getElem?_eq_none (by simp;omega),List.getElem?_eq_none h1]
 have hlo:LoS (mkS l) (mkS (l++[some (.row .mine es 0 0 e)])):=by
  refine⟨by simp[mkS],Nat.le_refl _,fun x h1 _=> ?_,fun x o' e'=> ?_⟩
  ·rw[hg];exact a2_ _ _ (by have:x<l.length:=h1;omega)
  ·rw[hg]at e'
   by_cases hx:x=l.length
   ·exact .inr (by subst hx;simp[mkS])
   ·rw[a2_ _ _ hx]at e';exact .inl ⟨o',e'⟩
 have hnx:(mkS (l++[some (.row .mine es 0 0 e)])).next=(mkS l).next+1:=by simp[mkS]
 exact⟨_,hr.step hlo ⟨hr.fr.size,fun t v ht=>by obtain⟨v',h2,h3⟩:=hr.fr.tmp t v ht;exact⟨v',h2,h3.mono m.ext⟩,hr.fr.defs.mono m.ext⟩ (by rw[hg,hnx];exact m)⟩
theorem ObjR.nilCell{ρ:Rho}{s:Spot}{w:World}{cs:List Value}{ex:Bool}{es j k:Nat}(hj:cs[j]? =some (.slice none 0 0))(h:ObjR ρ (.cells cs ex es) s w):ObjR ρ (.cells (cs.set j (z8_ k)) ex es) s w:=by
 obtain⟨h0,h1,h2,C,t,fr,h3,h4,h5,h6,h7⟩:=h
 refine⟨h0,h1,h2,C,t,fr,h3,h4,h5,by rw[List.length_set];exact h6,fun i x hx=> ?_⟩
 rw[List.getElem?_set]at hx
 by_cases hij:j=i
 ·subst hij
  have hl:=(List.getElem?_eq_some_iff.1 hj).1
  simp[hl]at hx
  subst hx
  obtain⟨y,hy,hv⟩:=h7 j _ hj
  cases hv
  exact⟨_,hy,.sliceN _ _⟩
 ·rw[if_neg hij]at hx
  exact h7 i x hx
def T6_(P:Program)(C:Told)(fuel n:Nat)(β:Bs)(un:Nat→Nat)(cn:Nat→(AFr→ASt→Prop)→AFr→ASt→Prop)(ex:Nat→Kt→Prop)(g:FuncId)(b:Nat)(E:Nat)(lv:AX→List Nat)(f:AFr)(st:ASt)(N:Kt):Prop:=
 n2_ P (funK P C fuel n) β un cn ex b (a5_ P g b) f st fun x f st=>match x with
  | .panic v=>cond (ground 3 v) (s0_ E (lv (.panic v)) (N (.panic v)) f st) False
  |x=>s0_ E (lv x) (N x) f st
theorem T5_{P:Program}{C:Told}{fuel n:Nat}(hm:P.follows .mixedOrders=true)(hC:a9_ P C){β:Bs}{E:Nat}(hE:β.X.length=E){un:Nat→Nat}{lvs:Nat→List Nat}{ex:Nat→Kt→Prop}{g:FuncId}{b:Nat}{lv:AX→List Nat}{f:AFr}{st:ASt}{N:Kt}
  (h:T6_ P C fuel n β un (cnOf E lvs) ex g b E lv f st N):J P β (a5_ P g b) f st fun x f st=>N x f st:=by
 have h1:=P9_ (G3_ P C fuel n) (h7_ hm hC fuel n) hm (aaJ_ β hE lvs) h
 intro Q ρ a w hr hp
 refine h1 Q ρ a w hr fun x f' st' ρ' e' a' w' hk hx hr'=> ?_
 cases x with
 |panic v=>
  cases hg:ground 3 v with
  |false=>simp only[hg]at hk;exact hk.elim
  |true=>
   simp only[hg,cond_true]at hk
   obtain⟨ρ2,f2,st2,k1,k2⟩:=f0_ hk hE hr'
   refine hp _ f2 st2 ρ2 e' a' w' k1 ?_ k2
   obtain⟨v',he,hv⟩:=hx
   have:=VR.ground 3 hg hv
   subst this
   exact⟨v',he,VR.refl 3 hg⟩
 |normal=>obtain⟨ρ2,f2,st2,k1,k2⟩:=f0_ hk hE hr';exact hp _ f2 st2 ρ2 e' a' w' k1 hx k2
 |exit i=>obtain⟨ρ2,f2,st2,k1,k2⟩:=f0_ hk hE hr';exact hp _ f2 st2 ρ2 e' a' w' k1 hx k2
 |ret=>obtain⟨ρ2,f2,st2,k1,k2⟩:=f0_ hk hE hr';exact hp _ f2 st2 ρ2 e' a' w' k1 hx k2
end Go.Proofs.YtachglcffimmeaaGreat.Ev
