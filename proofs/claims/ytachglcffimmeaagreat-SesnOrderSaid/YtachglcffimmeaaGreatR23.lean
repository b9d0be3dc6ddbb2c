/-
  A request out of numbers: what the code comes to.
-/
import Derived.Test.YtachglcffimmeaaGreatR22
import Derived.Test.YtachglcffimmeaaGreatR18
set_option linter.unusedVariables false
set_option linter.unusedSimpArgs false
set_option maxRecDepth 1000000
section
namespace Go.Proofs.YtachglcffimmeaaGreat.Ev
open Go Go.Proofs Go.RowKit
theorem x1_{a b c:Bool}{K:Prop}(ha:a=true)(hb:b=true)(hc:c=true)(h:K):need (a&&b&&c&&true) K:=nd_ (by rw[ha,hb,hc];rfl) h
theorem amT_{l:List U8}{n id:Int}{β:Bs}{K:AE→List (Option AObj)→Prop}(hβ:β.X.length=2)(hp:PkOk l n){c:Nat}(hc:c≤1)(hK:PkK l c (askX l id n).pick K):
  lawE Tryz.prog C8_ 100 20 β (fun _=>0) (cnOf 2 lvsA) (exAk l c id n) 17 [.pointer (some ⟨0,0,none⟩),.int .i64 id] (mkS (viP l c n)) (outK K):=by
 refine(anL_ l c n id β K).mpr ?_
 try dsimp only
 obtain⟨k1,k2,k3⟩:=nF_ (m:=5) hp (by omega)
 have d0:=hp.d
 have hall:=hp.all
 have hbr:=hp.br hc
 have d1:=k3.d
 have e1:(IntKind.wrap .i64 (1+(numF l n 5).1)==1)=((numF l n 5).1==0):=k_eq k1 k2 0
 have e2:(IntKind.wrap .i64 (1+(numF l n 5).1)==2)=((numF l n 5).1==1):=k_eq k1 k2 1
 have e3:(IntKind.wrap .i64 (1+(numF l n 5).1)==3)=((numF l n 5).1==2):=k_eq k1 k2 2
 have e4:(IntKind.wrap .i64 (1+(numF l n 5).1)==4)=((numF l n 5).1==3):=k_eq k1 k2 3
 have w5:IntKind.wrap .i64 (1+(numF l n 5).1)=1+(numF l n 5).1:=w64 (by omega) (by omega)
 rw[Z3_,e1,e2,e3,e4]
 refine x1_ hbr hall d0 (a0_ (fun h1=> ?_) (fun h1=>a0_ (fun h2=> ?_) (fun h2=>a0_ (fun h3=> ?_) (fun h3=>a0_ (fun h4=> ?_) (fun h4=> ?_)))))
 ·refine x1_ hbr hall d1 ?_
  have hs:(askX l id n).pick=as1 l id n:=by unfold askX;simp only[PkX.pick,h1,cond_true]
  rw[hs]at hK
  obtain⟨a1,a2,a3⟩:=nF_ (m:=3) k3 (by omega)
  have hr:IntKind.wrap .i64 ((numF l (numF l n 5).2 3).1+1)=((((numF l (numF l n 5).2 3).1+1).toNat:Nat):Int):=by rw[w64 (by omega) (by omega)];omega
  have hk:IntKind.wrap .i64 (1+(numF l n 5).1)=1:=by rw[w5];have:=eq_of_beq h1;omega
  have hlp:=agP_ (id:=id) hβ hc (r0:=((numF l (numF l n 5).2 3).1+1).toNat) (n0:=(numF l (numF l n 5).2 3).2) (by omega) a3
  rw[hr,hk]
  refine⟨⟨fun K hK=>(LoopJ.seen (agN_ hβ) hlp).ok K hK⟩,hK _ [5] rfl (by simp) (by simp) (by simp) rfl (fun j x o h h2=> ?_)⟩
  match j,h,h2 with
  |0,h,h2=>cases h;cases h2;rfl
  |j+1,h,h2=>simp at h
 ·refine x1_ hbr hall d1 ?_
  have hs:(askX l id n).pick=as2 l id n:=by unfold askX;simp only[PkX.pick,h1,h2,cond_true,cond_false]
  rw[hs]at hK
  obtain⟨a1,a2,a3⟩:=nF_ (m:=2) k3 (by omega)
  have hr:IntKind.wrap .i64 ((numF l (numF l n 5).2 2).1+1)=((((numF l (numF l n 5).2 2).1+1).toNat:Nat):Int):=by rw[w64 (by omega) (by omega)];omega
  have hk:IntKind.wrap .i64 (1+(numF l n 5).1)=2:=by rw[w5];have:=eq_of_beq h2;omega
  have hlp:=agO_ (id:=id) hβ hc (r0:=((numF l (numF l n 5).2 2).1+1).toNat) (n0:=(numF l (numF l n 5).2 2).2) (by omega) a3
  rw[hr,hk]
  refine⟨⟨fun K hK=>(LoopJ.seen agM_ hlp).ok K hK⟩,hK _ [4,5] rfl (by simp) (by simp) (by simp) rfl (fun j x o h h2=> ?_)⟩
  match j,h,h2 with
  |0,h,h2=>cases h;cases h2;rfl
  |1,h,h2=>cases h;cases h2;rfl
  |j+2,h,h2=>simp at h
 ·refine x1_ hbr hall d1 ?_
  have hs:(askX l id n).pick=as3 l id n:=by unfold askX;simp only[PkX.pick,h1,h2,h3,cond_true,cond_false]
  rw[hs]at hK
  have hk:IntKind.wrap .i64 (1+(numF l n 5).1)=3:=by rw[w5];have:=eq_of_beq h3;omega
  rw[hk]
  exact hK _ [] rfl (by simp) (by simp) (by simp) rfl (fun j x o h h2=>by simp at h)
 ·refine x1_ hbr hall d1 (x1_ hbr hall d1 ?_)
  have hs:(askX l id n).pick=as4 l id n:=by unfold askX;simp only[PkX.pick,h1,h2,h3,h4,cond_true,cond_false]
  rw[hs]at hK
  have hk:IntKind.wrap .i64 (1+(numF l n 5).1)=4:=by rw[w5];have:=eq_of_beq h4;omega
  rw[hk]
  obtain⟨a1,a2,a3⟩:=nF_ (m:=9) k3 (by omega)
  obtain⟨b1,b2,b3⟩:=nF_ (m:=4) a3 (by omega)
  obtain⟨c1,c2,c3⟩:=nF_ (m:=4) b3 (by omega)
  obtain⟨f1,f2,f3⟩:=nF_ (m:=2) c3 (by omega)
  have da:=a3.d
  have db:=b3.d
  have dc:=c3.d
  have df:=f3.d
  have he:IntKind.wrap .i64 ((numF l (numF l (numF l n 5).2 9).2 4).1*10)=(numF l (numF l (numF l n 5).2 9).2 4).1*10:=w64 (by omega) (by omega)
  rw[he]
  refine nd_ (by simpa using a1) ?_
  have leaf: ∀(bd:Vl×Int),bd=qv l n→ ∀(sx:ByteArray) (i:Nat),Nat.beq (numF l (numF l n 5).2 9).1.toNat i=true→sx=(ptsL.getD i Enc.dflt).s→ ∀q:List (Option AObj),q[0]? =some (some (pkO l.length c bd.2))→q[7]? =some (some (.cells [.string sx] true 1))→
    K (.returned (.agg ⟨msCs ⟨4,id,0,(qn l n).1,0,false,(qe l n).1*10,bd.1,[],0,[],1⟩ (.slice (some ⟨7,0,none⟩) 1 1) (.slice none 0 0)⟩)) q:=by
   intro bd hbd sx i hi hsx q h0 h7
   subst hbd
   refine hK q [7] rfl (by simp) (by simp) (by have:=(List.getElem?_eq_some_iff.1 h7).1;omega) h0 (fun j x o h h2=> ?_)
   match j,h,h2 with
   |0,h,h2=>
    cases h;cases h2
    rw[h7,hsx,←Nat.eq_of_beq_eq_true hi];rfl
   |j+1,h,h2=>simp at h
  have hv1:((qb l n).1==0)=true→(pvF l (qb l n).2 2)=qv l n:=fun h=>by unfold qv;rw[h];rfl
  have hv2:((qb l n).1==0)=false→((⟨0,0,0⟩,(qb l n).2):Vl×Int)=qv l n:=fun h=>by unfold qv;rw[h];rfl
  refine a0_ (fun hi=> ?_) (fun e0=>a0_ (fun hi=> ?_) (fun e1=>a0_ (fun hi=> ?_) (fun e2=>a0_ (fun hi=> ?_) (fun e3=>a0_ (fun hi=> ?_) (fun e4=>a0_ (fun hi=> ?_) (fun e5=>a0_ (fun hi=> ?_) (fun e6=>a0_ (fun hi=> ?_) (fun e7=>a0_ (fun hi=> ?_) (fun e8=> ?_)))))))))
  rotate_left 9
  ·have:(numF l (numF l n 5).2 9).1.toNat<9:=by omega
   have n0:=Nat.ne_of_beq_eq_false e0
   have n1:=Nat.ne_of_beq_eq_false e1
   have n2:=Nat.ne_of_beq_eq_false e2
   have n3:=Nat.ne_of_beq_eq_false e3
   have n4:=Nat.ne_of_beq_eq_false e4
   have n5:=Nat.ne_of_beq_eq_false e5
   have n6:=Nat.ne_of_beq_eq_false e6
   have n7:=Nat.ne_of_beq_eq_false e7
   have n8:=Nat.ne_of_beq_eq_false e8
   omega
  all_goals
   refine x1_ hbr hall da (x1_ hbr hall da (x1_ hbr hall db (x1_ hbr hall db (x1_ hbr hall dc (a0_ (fun hq=>x1_ hbr hall df ?_) (fun hq=> ?_))))))
   ·exact leaf _ (hv1 hq) _ _ hi rfl _ rfl rfl
   ·exact leaf _ (hv2 hq) _ _ hi rfl _ rfl rfl
 ·refine x1_ hbr hall d1 ?_
  have hs:(askX l id n).pick=as5 l id n:=by unfold askX;simp only[PkX.pick,h1,h2,h3,h4,cond_false]
  rw[hs]at hK
  have hk:IntKind.wrap .i64 (1+(numF l n 5).1)=5:=by
   rw[w5]
   have g1:(numF l n 5).1≠0:=by simpa using h1
   have g2:(numF l n 5).1≠1:=by simpa using h2
   have g3:(numF l n 5).1≠2:=by simpa using h3
   have g4:(numF l n 5).1≠3:=by simpa using h4
   omega
  rw[hk]
  exact hK _ [] rfl (by simp) (by simp) (by simp) rfl (fun j x o h h2=>by simp at h)
def msW(m:Ms)(x y:Nat):List Value:=msCs m (.slice (some ⟨x,0,some 0⟩) m.ps.length 1) (.slice (some ⟨y,0,some 0⟩) m.vs.length 1)
def askU(l:List U8)(id n:Int):PkX:= .one ⟨true,.returned (.agg ⟨msW (askM l id n).1 2 3⟩),(askM l id n).2,[rowO .mine (askM l id n).1.ps,rowO .mine (askM l id n).1.vs]⟩
def deU:PkE:=fun xs=>match xs with
 |[.int .i64 id]=>some fun l n=>askU l id n
 |_=>none
def AskK(l:List U8)(c:Nat)(m:Ms)(n':Int)(K:AE→List (Option AObj)→Prop):Prop:= ∀(q l2:List (Option AObj)) (cs:List Value) (x y:Nat),(∀β:Bs,β.X.length=2→Seen β (f2_ cs) (mkS q) (f2_ (msW m x y)) (mkS l2))→cs.length=12→x≠y→2≤x→2≤y→
 l2[0]? =some (some (pkO l.length c n'))→l2[x]? =some (some (rowO .mine m.ps))→l2[y]? =some (some (rowO .mine m.vs))→K (.returned (.agg ⟨cs⟩)) q
theorem p9_{q t:List (Option AObj)}{x:Nat}{o:Option AObj}(h:q[x]? =some o):(q++t)[x]? =some o:=by
 have:=(List.getElem?_eq_some_iff.1 h).1
 rw[List.getElem?_append_left this];exact h
theorem C2_(q:List (Option AObj))(o:Option AObj):(q++[o])[q.length]? =some o:=by simp
theorem Y7_{l:List U8}{c:Nat}(m:Ms)(hp:m.ps=[])(hv:m.vs=[]){n':Int}{K:AE→List (Option AObj)→Prop}(hK:AskK l c m n' K){q:List (Option AObj)}(hq:2≤q.length)(h0:q[0]? =some (some (pkO l.length c n'))):K (.returned (.agg ⟨msCs m (.slice none 0 0) (.slice none 0 0)⟩)) q:=by
 have hl:(q++[some (AObj.row .mine 1 0 0 (encL ([]:List St)))]).length=q.length+1:=by simp
 refine hK q ((q++[some (AObj.row .mine 1 0 0 (encL ([]:List St)))])++[some (AObj.row .mine 3 0 0 (encL ([]:List Vl)))]) (msCs m (.slice none 0 0) (.slice none 0 0)) q.length (q.length+1) (fun β _=> ?_) rfl (by omega) hq (by omega) (p9_ (p9_ h0)) ?_ ?_
 ·refine Seen.trans (Seen.void 1 (encL ([]:List St))) (Seen.trans (Seen.nilSlotR (f:=f2_ (msCs m (.slice none 0 0) (.slice none 0 0))) (f':=f2_ (msCs m (z1_ q.length) (.slice none 0 0))) 10 q.length rfl rfl rfl fun u v h=>l1_ (t:=10) (cs:=msCs m (.slice none 0 0) (.slice none 0 0)) h) ?_)
  refine Seen.trans (Seen.void 3 (encL ([]:List Vl))) ?_
  unfold msW
  rw[hp,hv]
  exact Seen.nilSlotR (f:=f2_ (msCs m (z1_ q.length) (.slice none 0 0))) (f':=f2_ (msCs m (z1_ q.length) (z1_ (q.length+1)))) 11 (q.length+1) rfl rfl rfl fun u v h=>l1_ (t:=11) (cs:=msCs m (z1_ q.length) (.slice none 0 0)) h
 ·rw[hp];exact p9_ (C2_ _ _)
 ·rw[hv,←hl];exact C2_ _ _
theorem amU_{l:List U8}{c:Nat}{id n:Int}{K:AE→List (Option AObj)→Prop}(hK:AskK l c (askM l id n).1 (askM l id n).2 K):PkK l c (askX l id n).pick K:=by
 cases h1:((numF l n 5).1==0)with
 |true=>
  have hm:askM l id n=(am1 l id n,(qr1 l n).2):=by unfold askM;rw[h1];rfl
  have hs:(askX l id n).pick=as1 l id n:=by unfold askX;simp only[PkX.pick,h1,cond_true]
  rw[hm]at hK
  rw[hs]
  intro q nm w1 w2 w3 hq w4 w5
  match nm,w1 with
  |[x],_=>
   have hx:=w5 0 x _ rfl rfl
   have hxl:=(List.getElem?_eq_some_iff.1 hx).1
   have hx2:2≤x:=w3 x (by simp)
   exact hK q (q++[some (AObj.row .mine 3 0 0 (encL ([]:List Vl)))]) (msCs (am1 l id n) (.slice (some ⟨x,0,some 0⟩) (qr1 l n).1.length 1) (.slice none 0 0)) x q.length (fun β _=>Seen.trans (Seen.void 3 (encL ([]:List Vl))) (Seen.nilSlotR (f:=f2_ (msCs (am1 l id n) (.slice (some ⟨x,0,some 0⟩) (qr1 l n).1.length 1) (.slice none 0 0))) (f':=f2_ (msW (am1 l id n) x q.length)) 11 q.length rfl rfl rfl fun u v h=>l1_ (t:=11) (cs:=msCs (am1 l id n) (.slice (some ⟨x,0,some 0⟩) (qr1 l n).1.length 1) (.slice none 0 0)) h)) rfl (by omega) hx2 (by omega) (p9_ w4) (p9_ hx) (C2_ _ _)
 |false=>
  cases h2:((numF l n 5).1==1)with
  |true=>
   have hm:askM l id n=(am2 l id n,(qr2 l n).2.2):=by unfold askM;rw[h1,h2];rfl
   have hs:(askX l id n).pick=as2 l id n:=by unfold askX;simp only[PkX.pick,h1,h2,cond_true,cond_false]
   rw[hm]at hK
   rw[hs]
   intro q nm w1 w2 w3 hq w4 w5
   match nm,w1 with
   |[x,y],_=>
    have hx:=w5 0 x _ rfl rfl
    have hy:=w5 1 y _ rfl rfl
    have hxy:x≠y:=by simpa using w2
    exact hK q q (msW (am2 l id n) x y) x y (fun β _=>Seen.refl _ _ _) rfl hxy (w3 x (by simp)) (w3 y (by simp)) w4 hx hy
  |false=>
   cases h3:((numF l n 5).1==2)with
   |true=>
    have hm:askM l id n=(am3 l id n,(numF l (numF l n 5).2 12).2):=by unfold askM;rw[h1,h2,h3];rfl
    have hs:(askX l id n).pick=as3 l id n:=by unfold askX;simp only[PkX.pick,h1,h2,h3,cond_true,cond_false]
    rw[hm]at hK
    rw[hs]
    intro q nm w1 w2 w3 hq w4 w5
    match nm,w1 with
    |[],_=>exact Y7_ (am3 l id n) rfl rfl hK hq w4
   |false=>
    cases h4:((numF l n 5).1==3)with
    |true=>
     have hm:askM l id n=(am4 l id n,(qv l n).2):=by unfold askM;rw[h1,h2,h3,h4];rfl
     have hs:(askX l id n).pick=as4 l id n:=by unfold askX;simp only[PkX.pick,h1,h2,h3,h4,cond_true,cond_false]
     rw[hm]at hK
     rw[hs]
     intro q nm w1 w2 w3 hq w4 w5
     match nm,w1 with
     |[x],_=>
      have hx:=w5 0 x _ rfl rfl
      have hx:q[x]? =some (some (.cells [.string (ptsL.getD (qp l n).1.toNat Enc.dflt).s] true 1)):=hx
      have hxl:=(List.getElem?_eq_some_iff.1 hx).1
      have hx2:2≤x:=w3 x (by simp)
      have hl:(q.set x none++[some (AObj.row .mine 1 0 1 (encL [ptsL.getD (qp l n).1.toNat Enc.dflt]))]).length=q.length+1:=by simp
      refine hK q ((q.set x none++[some (AObj.row .mine 1 0 1 (encL [ptsL.getD (qp l n).1.toNat Enc.dflt]))])++[some (AObj.row .mine 3 0 0 (encL ([]:List Vl)))]) (msCs (am4 l id n) (.slice (some ⟨x,0,none⟩) 1 1) (.slice none 0 0)) q.length (q.length+1) (fun β _=> ?_) rfl (by omega) hq (by omega) ?_ ?_ ?_
      ·refine Seen.trans (Seen.cellsRow (f':=f2_ (msCs (am4 l id n) (.slice (some ⟨q.length,0,some 0⟩) 1 1) (.slice none 0 0))) x 1 0 1 1 10 hx rfl rfl (by simp) (by omega) (by omega) (encL [ptsL.getD (qp l n).1.toNat Enc.dflt]) (fun i hi j hj=> ?_) rfl rfl (fun u v h=>l1_ (t:=10) (cs:=msCs (am4 l id n) (.slice (some ⟨x,0,none⟩) 1 1) (.slice none 0 0)) h)) ?_
       ·have hi0:i=0:=by omega
        have hj0:j=0:=by omega
        subst hi0 hj0
        exact⟨_,rfl,rfl⟩
       ·refine Seen.trans (Seen.void 3 (encL ([]:List Vl))) ?_
        exact Seen.nilSlotR (f:=f2_ (msCs (am4 l id n) (.slice (some ⟨q.length,0,some 0⟩) 1 1) (.slice none 0 0))) (f':=f2_ (msW (am4 l id n) q.length (q.length+1))) 11 (q.length+1) rfl rfl rfl fun u v h=>l1_ (t:=11) (cs:=msCs (am4 l id n) (.slice (some ⟨q.length,0,some 0⟩) 1 1) (.slice none 0 0)) h
      ·refine p9_ (p9_ ?_)
       rw[List.getElem?_set_ne (by omega)];exact w4
      ·refine p9_ ?_
       rw[List.getElem?_append_right (by simp)];simp;rfl
      ·rw[←hl];exact C2_ _ _
    |false=>
     have hm:askM l id n=(am5 l id n,(numF l (numF l n 5).2 4).2):=by unfold askM;rw[h1,h2,h3,h4];rfl
     have hs:(askX l id n).pick=as5 l id n:=by unfold askX;simp only[PkX.pick,h1,h2,h3,h4,cond_true,cond_false]
     rw[hm]at hK
     rw[hs]
     intro q nm w1 w2 w3 hq w4 w5
     match nm,w1 with
     |[],_=>exact Y7_ (am5 l id n) rfl rfl hK hq w4
theorem aja_{P:Program}{g:FuncId}(h: ∀(l:List U8) (c:Nat) (id n:Int),PkOk l n→c≤1→ ∃(C:Told) (fuel k:Nat) (un:Nat→Nat) (lvs:Nat→List Nat) (ex:Nat→Kt→Prop),a8_ P C∧
  ∀β:Bs,β.X.length=2→ ∀K:AE→List (Option AObj)→Prop,AskK l c (askM l id n).1 (askM l id n).2 K→lawE P C fuel k β un (cnOf 2 lvs) ex g [.pointer (some ⟨0,0,none⟩),.int .i64 id] (mkS (viP l c n)) (outK K)):q2_ outS P g (pickS (spPn deU)):=by
 intro args objs s hs hb
 unfold pickS spPn at hs
 split at hs
 ·rename_i xs k c n o1
  split at hs
  ·rename_i F hd
   unfold deU at hd
   split at hd
   ·rename_i id
    cases hd
    simp only[Option.map_some,Option.some.injEq]at hs
    rw[M5_]at hs
    subst hs
    have hb':=hb
    simp only[Bool.and_eq_true]at hb'
    obtain⟨⟨⟨b1,b2⟩,b3⟩,b4⟩:=hb'
    obtain⟨l1,m1,c1,v1⟩:=N3_ b1
    have hp:PkOk (rowL U8 k o1) n:=⟨b2,by rw[l1];exact m1,of_decide_eq_true b3⟩
    refine⟨⟨rfl,fun i o h=> ?_⟩,?_⟩
    ·match i,h with
     |0,h=>cases h;exact⟨_,by rw[l1];rfl,fun h=>h,fun _ _ _ h=>h⟩
     |1,h=>cases h;obtain⟨q,rfl,hq⟩:=v1;exact⟨q,rfl,(fun h=>by cases h),hq⟩
     |_+2,h=>simp[viP]at h
    obtain⟨C,fuel,kk,un,lvs,ex,hC,hl⟩:=h (rowL U8 k o1) c id n hp c1
    refine⟨C,fuel,kk,un,lvs,ex,hC,fun β hβ=> ?_⟩
    generalize hL:rowL U8 k o1=l at*
    refine hl β hβ (fun r q=> ∃l2,a6_ q l2∧ ∃cs f' st2 cs2,r= .returned (.agg ⟨cs⟩)∧(∀β:Bs,β.X.length=2→Seen β (f2_ cs) (mkS l2) f' st2)∧cs2.length=cs.length∧(∀(i:Nat) v,cs2[i]? =some v→f'.tmps.get i=some v)∧effK ⟨rowB U8 k c o1&&l.all (okA U8)&&decide (0≤n)&&true,viP l c n,.returned (.agg ⟨msW (askM l id n).1 2 3⟩),[.to (pkO k c (askM l id n).2),.same],[rowO .mine (askM l id n).1.ps,rowO .mine (askM l id n).1.vs]⟩ (.returned (.agg ⟨cs2⟩)) st2) (fun q l2 cs x y hsn hlen hxy hx2 hy2 h0 hx hy=> ?_)
    refine⟨q,a6_.refl q,cs,f2_ (msW (askM l id n).1 x y),mkS l2,msW (askM l id n).1 x y,rfl,hsn,by rw[hlen];rfl,fun i v h=>J6_ h,[x,y],rfl,by simp[hxy],?_,rfl,fun i o h=> ?_,fun j x' o h h2=> ?_⟩
    ·intro z hz
     rcases List.mem_cons.1 hz with rfl|hz
     ·exact hx2
     ·rcases List.mem_cons.1 hz with rfl|hz
      ·exact hy2
      ·cases hz
    ·match i,h with
     |0,h=>cases h;rw[b5_,h0,l1];rfl
     |1,h=>cases h
     |i+2,h=>simp at h
    ·match j,h,h2 with
     |0,h,h2=>cases h;cases h2;rw[b5_,hx];rfl
     |1,h,h2=>cases h;cases h2;rw[b5_,hy];rfl
     |j+2,h,h2=>simp at h
   ·cases hd
  ·cases hs
 ·cases hs
theorem agL_:q2_ outS Tryz.prog 17 (pickS (spPn deU)):=
 aja_ fun l c id n hp hc=>⟨C8_,100,20,fun _=>0,lvsA,exAk l c id n,t5_,fun β hβ K hK=>amT_ hβ hp hc (amU_ hK)⟩
def toldP5:Told:=C8_.effT 17 (spPn deU)
theorem toldP5_ok:a8_ Tryz.prog toldP5:=Told.effT_okG aoc_ follows t5_ agL_
def amV(m:Ms)(i j:Nat):Value:= .agg ⟨msCs m (.slice (some ⟨i,0,some 0⟩) m.ps.length m.cps) (.slice (some ⟨j,0,some 0⟩) m.vs.length m.cvs)⟩
def amC(m:Ms)(i j:Nat):AObj:= .cells (msCs m (.slice (some ⟨i,0,some 0⟩) m.ps.length m.cps) (.slice (some ⟨j,0,some 0⟩) m.vs.length m.cvs)) true 0
def o0_(a b:List St):Bool:=(List.range a.length).all fun i=>(a.getD i Enc.dflt).s.data.toList==(b.getD i Enc.dflt).s.data.toList
def slSm:List Nat:=[2,3,5]
def lvSm:AX→List Nat:=fun x=>match x with
 | .ret=>[4]
 |_=>slSm
def viSm(a b:Ms):List (Option AObj):=[some (rowO .look a.ps),some (rowO .look a.vs),some (rowO .look b.ps),some (rowO .look b.vs)]
def FSm(i:Int):AFr:=mkF 96 [(2,.pointer (some ⟨4,0,none⟩)),(3,.pointer (some ⟨5,0,none⟩)),(5,.int .i64 i)]
def SSm(a b:Ms):ASt:=mkS [some (rowO .look a.ps),some (rowO .look a.vs),some (rowO .look b.ps),some (rowO .look b.vs),some (amC a 0 1),some (amC b 2 3)]
def apR_:AFr:=mkF 96 [(4,.bool false)]
def SSr(a b:Ms):ASt:=mkS [some (rowO .look a.ps),some (rowO .look a.vs),some (rowO .look b.ps),some (rowO .look b.vs)]
def exSm(a b:Ms):Nat→Kt→Prop:=fun _ K=>(o0_ a.ps b.ps=false→K .ret apR_ (SSr a b))∧(o0_ a.ps b.ps=true→K (.exit 0) (FSm (Int.ofNat a.ps.length)) (SSm a b))
theorem apj_(a b:Ms)(β:Bs)(K:AE→List (Option AObj)→Prop):lawE Tryz.prog toldP5 100 20 β (fun _=>0) (cnOf 4 fun _=>slSm) (exSm a b) 12 [amV a 0 1,amV b 2 3] (mkS (viSm a b)) (outK K)=
 (fun(z5:AE) (z12 z13 z16 z17 z18 z19:Nat)=>((fun(z3 z4 z6 z7 z8 z9 z10 z11:AObj) (z14 z15:Td)=>((fun(z0:List (Option AObj)) (z1 z2:Prop)=>(br (Ms.k a !=Ms.k b) (K z5 z0) (br (Ms.id a !=Ms.id b) (K z5 z0) (br (Ms.er a !=Ms.er b) (K z5 z0) (br (Ms.n a !=Ms.n b) (K z5 z0) (br (Ms.sq a !=Ms.sq b) (K z5 z0) (br (!Ms.lo a==Ms.lo b) (K z5 z0) (br (Ms.ev a !=Ms.ev b) (K z5 z0) (br (Vl.k (Ms.bd a)==Vl.k (Ms.bd b)) (br (Vl.i (Ms.bd a)==Vl.i (Ms.bd b)) (br (!h6_ z18 z19) z1 (need (true&&Nat.ble (0+List.length (Ms.vs a)) z12) (need (true&&Nat.ble (0+List.length (Ms.vs b)) z13) (need (ok2 Vl Vl (fun x x_1 x_2 x_3=>true) [Ta.cell z14,Ta.cell z15]) (br (!d5_ (a4_ Vl z14) (a4_ Vl z15)) z2 (br (Int.ofNat z16 !=Int.ofNat z17) z2 (LoopJ Tryz.prog β (exSm a b) 0 (a5_ Tryz.prog 12 0) (mkF 96 [(2,.pointer (some ⟨4,0,none⟩)),(3,.pointer (some ⟨5,0,none⟩)),(5,.int .i64 (0:Int))]) (mkS z0)∧(o0_ (Ms.ps a) (Ms.ps b)=false→K z5 [some z6,some z7,some z8,some z9])∧(o0_ (Ms.ps a) (Ms.ps b)=true→K (.returned (.bool true)) z0)))))))) z1) z1))))))))) [some z6,some z7,some z8,some z9,some z3,some z4] (K z5 [some z6,some z7,some z8,some z9,some z3,some z4,some z10,some z11]) (K z5 [some z6,some z7,some z8,some z9,some z3,some z4,some z10,some z11,none]))) (.cells [.int .i64 (Ms.k a),.int .i64 (Ms.id a),.int .i64 (Ms.er a),.int .i64 (Ms.n a),.int .i64 (Ms.sq a),.bool (Ms.lo a),.int .i64 (Ms.ev a),.int .i64 (Vl.k (Ms.bd a)),.int .i64 (Vl.i (Ms.bd a)),.float .f64 z18,.slice (some ⟨0,0,some 0⟩) z16 (Ms.cps a),.slice (some ⟨1,0,some 0⟩) z12 (Ms.cvs a)] true 0) (.cells [.int .i64 (Ms.k b),.int .i64 (Ms.id b),.int .i64 (Ms.er b),.int .i64 (Ms.n b),.int .i64 (Ms.sq b),.bool (Ms.lo b),.int .i64 (Ms.ev b),.int .i64 (Vl.k (Ms.bd b)),.int .i64 (Vl.i (Ms.bd b)),.float .f64 z19,.slice (some ⟨2,0,some 0⟩) z17 (Ms.cps b),.slice (some ⟨3,0,some 0⟩) z13 (Ms.cvs b)] true 0) (.row .look 1 0 z16 (encL (Ms.ps a))) (.row .look 3 0 z12 (encL (Ms.vs a))) (.row .look 1 0 z17 (encL (Ms.ps b))) (.row .look 3 0 z13 (encL (Ms.vs b))) (.cells [.int .i64 (Vl.k (Ms.bd a)),.int .i64 (Vl.i (Ms.bd a)),.float .f64 z18] true 0) (.cells [.int .i64 (Vl.k (Ms.bd b)),.int .i64 (Vl.i (Ms.bd b)),.float .f64 z19] true 0) (.fr 3 z12 (Ms.cvs a) fun i=>encL (Ms.vs a) (0+i)) (.fr 3 z13 (Ms.cvs b) fun i=>encL (Ms.vs b) (0+i)))) (.returned (.bool false)) (List.length (Ms.vs a)) (List.length (Ms.vs b)) (List.length (Ms.ps a)) (List.length (Ms.ps b)) (Vl.f (Ms.bd a)) (Vl.f (Ms.bd b)):=by kernel_rfl
theorem akw_(a b:Ms)(i:Int)(β:Bs)(Nx:Kt):c0_ Tryz.prog toldP5 100 20 β (fun _=>0) (cnOf 4 fun _=>slSm) (fun _ _=>False) 12 0 4 lvSm (FSm i) (SSm a b) Nx=
 (fun(z1 z2 z3:Nat) (z4 z5:AObj)=>((fun(z6 z7:AObj)=>((fun(z0:ASt)=>(br (decide (i<Int.ofNat z1)) (need (decide ((0:Int)≤i)) (need (Nat.blt (Int.toNat i) z1) (need (Nat.ble 0 z3&&Nat.blt z3 z1) (need (decide ((0:Int)≤i)) (need (Nat.blt (Int.toNat i) z2) (need (Nat.ble 0 z3&&Nat.blt z3 z2) (br (!Array.toList (ByteArray.data (St.s (List.getD (Ms.ps a) z3 Enc.dflt)))==Array.toList (ByteArray.data (St.s (List.getD (Ms.ps b) z3 Enc.dflt)))) (Nx .ret (mkF 96 [(4,.bool false)]) (mkS [some z6,some z4,some z7,some z5])) (Nx .normal (mkF 96 [(2,.pointer (some ⟨4,0,none⟩)),(3,.pointer (some ⟨5,0,none⟩)),(5,.int .i64 (IntKind.wrap .i64 (i+(1:Int))))]) z0)))))))) (Nx (.exit 0) (mkF 96 [(2,.pointer (some ⟨4,0,none⟩)),(3,.pointer (some ⟨5,0,none⟩)),(5,.int .i64 i)]) z0))) (mkS [some z6,some z4,some z7,some z5,some (.cells [.int .i64 (Ms.k a),.int .i64 (Ms.id a),.int .i64 (Ms.er a),.int .i64 (Ms.n a),.int .i64 (Ms.sq a),.bool (Ms.lo a),.int .i64 (Ms.ev a),.int .i64 (Vl.k (Ms.bd a)),.int .i64 (Vl.i (Ms.bd a)),.float .f64 (Vl.f (Ms.bd a)),.slice (some ⟨0,0,some 0⟩) z1 (Ms.cps a),.slice (some ⟨1,0,some 0⟩) (List.length (Ms.vs a)) (Ms.cvs a)] true 0),some (.cells [.int .i64 (Ms.k b),.int .i64 (Ms.id b),.int .i64 (Ms.er b),.int .i64 (Ms.n b),.int .i64 (Ms.sq b),.bool (Ms.lo b),.int .i64 (Ms.ev b),.int .i64 (Vl.k (Ms.bd b)),.int .i64 (Vl.i (Ms.bd b)),.float .f64 (Vl.f (Ms.bd b)),.slice (some ⟨2,0,some 0⟩) z2 (Ms.cps b),.slice (some ⟨3,0,some 0⟩) (List.length (Ms.vs b)) (Ms.cvs b)] true 0)]))) (.row .look 1 0 z1 (encL (Ms.ps a))) (.row .look 1 0 z2 (encL (Ms.ps b))))) (List.length (Ms.ps a)) (List.length (Ms.ps b)) (0+Int.toNat i) (.row .look 3 0 (List.length (Ms.vs a)) (encL (Ms.vs a))) (.row .look 3 0 (List.length (Ms.vs b)) (encL (Ms.vs b))):=by kernel_rfl
class EncO (α:Type) [Enc α]:Prop where
 lawO: ∀c:Nat→Td,Enc.ok α c=true→ ∀(w:World) (F:Nat→Prop) (j:Nat) (y:Value),j<Enc.es α→TRo w F (c j) y→TRo w F (Enc.enc (Enc.dec c:α) j) y
 okO: ∀c:Nat→Td,Enc.ok α c=true→okA α (Enc.dec c:α)=true
theorem k1_{α:Type}[Enc α][EncO α]{t:Td}(h:okT α t=true):(a4_ α t).all (okA α)=true:=by
 cases t with
 |sc x=>cases h
 |fr es n c e=>
  simp only[okT,Bool.or_eq_true,Bool.and_eq_true]at h
  rw[List.all_eq_true]
  show∀x∈(decL n e:List α),okA α x=true
  intro x hx
  obtain⟨i,hi,rfl⟩:=List.getElem_of_mem hx
  rw[i5_]at hi
  have h3:(decL n e:List α)[i]'(by rw[i5_];exact hi)=Enc.dec (e i):=by
   have:=Q2_ (α:=α) (e:=e) hi
   rw[←this]
   simp[List.getD,i5_,hi]
  rw[h3]
  rcases h with h|h
  ·exact EncO.okO _ (abM_ h.1.1.2 hi)
  ·have:=Nat.eq_of_beq_eq_true h.1
   omega
def b1_{α:Type}[Enc α](x:α):List Td:=(List.range (Enc.es α)).map (Enc.enc x)
theorem B8_{α:Type}[Enc α][EncO α]{cs:List Td}{w:World}{F:Nat→Prop}{ys:List Value}(hl:cs.length=Enc.es α)(h:Enc.ok α (nthT cs)=true)(hp:PW (TRo w F) cs ys):PW (TRo w F) (b1_ (Enc.dec (nthT cs):α)) ys:=by
 refine⟨by simp only[b1_,List.length_map,List.length_range];rw[←hl];exact hp.1,fun i a b ha hb=> ?_⟩
 simp only[b1_,List.getElem?_map]at ha
 obtain⟨j,hj,rfl⟩:=Option.map_eq_some_iff.1 ha
 have hji:j=i∧i<Enc.es α:=by
  rw[List.getElem?_eq_some_iff]at hj
  obtain⟨h1,h2⟩:=hj
  simp at h1 h2
  exact⟨h2.symm,h1⟩
 obtain⟨rfl,hlt⟩:=hji
 have hc:cs[j]? =some (cs[j]'(by omega)):=List.getElem?_eq_getElem (by omega)
 refine EncO.lawO _ h w F j b hlt ?_
 rw[m9_ cs j _ hc]
 exact hp.2 j _ _ hc hb
def okS1(α:Type)[Enc α](p:α→Bool)(ts:List Ta):Bool:=match ts with
 |[.agg cs]=>Nat.beq cs.length (Enc.es α)&&Enc.ok α (nthT cs)&&p (Enc.dec (nthT cs))
 |_=>false
def Q7_(α:Type)[Enc α](A:α→Ans)(ts:List Ta):Ans:=match ts with
 |[.agg cs]=>A (Enc.dec (nthT cs))
 |_=> .pan .nilIface
theorem abo_{P:Program}{g:FuncId}{α:Type}[Enc α][EncO α]{p:α→Bool}{A:α→Ans}(hm:P.follows .mixedOrders=true)
  (h: ∀x:α,okA α x=true→p x=true→ ∃(C:Told) (fuel n:Nat) (un:Nat→Nat) (lvs:Nat→List Nat) (ex:Nat→Kt→Prop),a8_ P C∧ ∀β:Bs,β.X.length=(layA [.agg (b1_ x)] 0).2.length→lawE P C fuel n β un (cnOf (layA [.agg (b1_ x)] 0).2.length lvs) ex g (layA [.agg (b1_ x)] 0).1 (mkS ((layA [.agg (b1_ x)] 0).2.map some)) (outR (ansE (A x)))):c5_ P g (okS1 α p) (Q7_ α A):=by
 intro ts hok w args' F hF ha
 unfold okS1 at hok
 split at hok
 ·rename_i cs
  simp only[Bool.and_eq_true]at hok
  obtain⟨⟨h1,h2⟩,h3⟩:=hok
  have h1:=Nat.eq_of_beq_eq_true h1
  obtain⟨y,m,e,⟨arr,rfl,hy⟩,hm'⟩:=ha.uncons
  have:=hm'.nil_inv
  subst this
  have ha':PW (TaR w F) [.agg (b1_ (Enc.dec (nthT cs):α))] args'.toList:=by rw[e];exact PW.cons ⟨arr,rfl,B8_ h1 h2 hy⟩ (PW.nil _)
  exact C7_ (ts:=[.agg (b1_ (Enc.dec (nthT cs):α))]) hm (h _ (EncO.okO _ h2) h3) w args' F hF ha'
 ·cases hok
def okS2(α:Type)[Enc α](p:α→α→Bool)(ts:List Ta):Bool:=match ts with
 |[.agg cs,.agg ds]=>Nat.beq cs.length (Enc.es α)&&Nat.beq ds.length (Enc.es α)&&Enc.ok α (nthT cs)&&Enc.ok α (nthT ds)&&p (Enc.dec (nthT cs)) (Enc.dec (nthT ds))
 |_=>false
def ana_(α:Type)[Enc α](A:α→α→Ans)(ts:List Ta):Ans:=match ts with
 |[.agg cs,.agg ds]=>A (Enc.dec (nthT cs)) (Enc.dec (nthT ds))
 |_=> .pan .nilIface
theorem anQ_{P:Program}{g:FuncId}{α:Type}[Enc α][EncO α]{p:α→α→Bool}{A:α→α→Ans}(hm:P.follows .mixedOrders=true)
  (h: ∀x z:α,okA α x=true→okA α z=true→p x z=true→ ∃(C:Told) (fuel n:Nat) (un:Nat→Nat) (lvs:Nat→List Nat) (ex:Nat→Kt→Prop),a8_ P C∧ ∀β:Bs,β.X.length=(layA [.agg (b1_ x),.agg (b1_ z)] 0).2.length→lawE P C fuel n β un (cnOf (layA [.agg (b1_ x),.agg (b1_ z)] 0).2.length lvs) ex g (layA [.agg (b1_ x),.agg (b1_ z)] 0).1 (mkS ((layA [.agg (b1_ x),.agg (b1_ z)] 0).2.map some)) (outR (ansE (A x z)))):c5_ P g (okS2 α p) (ana_ α A):=by
 intro ts hok w args' F hF ha
 unfold okS2 at hok
 split at hok
 ·rename_i cs ds
  simp only[Bool.and_eq_true]at hok
  obtain⟨⟨⟨⟨h1,g1⟩,h2⟩,g2⟩,h3⟩:=hok
  have h1:=Nat.eq_of_beq_eq_true h1
  have g1:=Nat.eq_of_beq_eq_true g1
  obtain⟨y,m,e,⟨arr,rfl,hy⟩,hm'⟩:=ha.uncons
  obtain⟨z,m2,e2,⟨arr2,rfl,hz⟩,hm2⟩:=hm'.uncons
  have:=hm2.nil_inv
  subst this e2
  have ha':PW (TaR w F) [.agg (b1_ (Enc.dec (nthT cs):α)),.agg (b1_ (Enc.dec (nthT ds):α))] args'.toList:=by rw[e];exact PW.cons ⟨arr,rfl,B8_ h1 h2 hy⟩ (PW.cons ⟨arr2,rfl,B8_ g1 g2 hz⟩ (PW.nil _))
  exact C7_ (ts:=[.agg (b1_ (Enc.dec (nthT cs):α)),.agg (b1_ (Enc.dec (nthT ds):α))]) hm (h _ _ (EncO.okO _ h2) (EncO.okO _ g2) h3) w args' F hF ha'
 ·cases hok
instance:EncO Vl where
 lawO c h w F j y hj ht:=by
  have h:vlOk c=true:=h
  match j,hj with
  |0,_=>rw[(A4_ h).1]at ht;exact ht
  |1,_=>rw[(A4_ h).2.1]at ht;exact ht
  |2,_=>rw[(A4_ h).2.2]at ht;exact ht
 okO c h:=rfl
instance:EncO U8 where
 lawO c h w F j y hj ht:=by
  have h:u8Ok c=true:=h
  have hj:j<1:=hj
  have:j=0:=by omega
  subst this
  rw[(A6_ h).1]at ht
  exact ht
 okO c h:=by
  have h:u8Ok c=true:=h
  have:=(A6_ h).2
  show(decide (0≤(u8D c).v)&&decide ((u8D c).v<256))=true
  simpa using this
theorem akZ_{c:Nat→Td}(h:stOk c=true)(w:World)(F:Nat→Prop)(j:Nat)(y:Value)(hj:j<1)(ht:TRo w F (c j) y):TRo w F (stE (stD c) j) y:=by
 have h0:=h
 match j,hj with
 |0,_=>rw[S9_ h0]at ht;exact ht
instance:EncO St where
 lawO c h w F j y hj ht:=akZ_ h w F j y hj ht
 okO c h:=rfl
theorem alQ_{c:Nat→Td}(h:msOk c=true)(w:World)(F:Nat→Prop)(j:Nat)(y:Value)(hj:j<12)(ht:TRo w F (c j) y):TRo w F (msE (msD c) j) y:=by
 simp only[msOk,Bool.and_eq_true]at h
 obtain⟨⟨⟨⟨⟨⟨⟨⟨⟨⟨⟨h0,h1⟩,h2⟩,h3⟩,h4⟩,h5⟩,h6⟩,h7⟩,h8⟩,h9⟩,h10⟩,h11⟩:=h
 match j,hj with
 |0,_=>rw[iI_ h0]at ht;exact ht
 |1,_=>rw[iI_ h1]at ht;exact ht
 |2,_=>rw[iI_ h2]at ht;exact ht
 |3,_=>rw[iI_ h3]at ht;exact ht
 |4,_=>rw[iI_ h4]at ht;exact ht
 |5,_=>rw[bI_ h5]at ht;exact ht
 |6,_=>rw[iI_ h6]at ht;exact ht
 |7,_=>rw[iI_ h7]at ht;exact ht
 |8,_=>rw[iI_ h8]at ht;exact ht
 |9,_=>rw[fI_ h9]at ht;exact ht
 |10,_=>exact h9_ (α:=St) h10 ht
 |11,_=>exact h9_ (α:=Vl) h11 ht
instance:EncO Ms where
 lawO c h w F j y hj ht:=alQ_ h w F j y hj ht
 okO c h:=by
  have h:msOk c=true:=h
  simp only[msOk,Bool.and_eq_true]at h
  obtain⟨⟨⟨⟨⟨⟨⟨⟨⟨⟨⟨h0,h1⟩,h2⟩,h3⟩,h4⟩,h5⟩,h6⟩,h7⟩,h8⟩,h9⟩,h10⟩,h11⟩:=h
  exact W1_ (k1_ h10) (b7_ h10).1 (b7_ h10).2 (k1_ h11) (b7_ h11).1 (b7_ h11).2
theorem amn_{c:Nat→Td}(h:imOk c=true)(w:World)(F:Nat→Prop)(j:Nat)(y:Value)(hj:j<5)(ht:TRo w F (c j) y):TRo w F (imE (imD c) j) y:=by
 simp only[imOk,Bool.and_eq_true]at h
 obtain⟨⟨⟨⟨h0,h1⟩,h2⟩,h3⟩,h4⟩:=h
 match j,hj with
 |0,_=>rw[iI_ h0]at ht;exact ht
 |1,_=>rw[iI_ h1]at ht;exact ht
 |2,_=>rw[iI_ h2]at ht;exact ht
 |3,_=>rw[fI_ h3]at ht;exact ht
 |4,_=>rw[bI_ h4]at ht;exact ht
instance:EncO Im where
 lawO c h w F j y hj ht:=amn_ h w F j y hj ht
 okO c h:=rfl
theorem akn_{c:Nat→Td}(h:wtOk c=true)(w:World)(F:Nat→Prop)(j:Nat)(y:Value)(hj:j<15)(ht:TRo w F (c j) y):TRo w F (wtE (wtD c) j) y:=by
 simp only[wtOk,Bool.and_eq_true]at h
 obtain⟨⟨⟨⟨⟨⟨⟨⟨⟨⟨⟨⟨⟨⟨h0,h1⟩,h2⟩,h3⟩,h4⟩,h5⟩,h6⟩,h7⟩,h8⟩,h9⟩,h10⟩,h11⟩,h12⟩,h13⟩,h14⟩:=h
 match j,hj with
 |0,_=>rw[iI_ h0]at ht;exact ht
 |1,_=>rw[iI_ h1]at ht;exact ht
 |2,_=>rw[iI_ h2]at ht;exact ht
 |3,_=>rw[iI_ h3]at ht;exact ht
 |4,_=>rw[iI_ h4]at ht;exact ht
 |5,_=>rw[iI_ h5]at ht;exact ht
 |6,_=>rw[fI_ h6]at ht;exact ht
 |7,_=>rw[iI_ h7]at ht;exact ht
 |8,_=>rw[bI_ h8]at ht;exact ht
 |9,_=>rw[bI_ h9]at ht;exact ht
 |10,_=>rw[iI_ h10]at ht;exact ht
 |11,_=>rw[iI_ h11]at ht;exact ht
 |12,_=>rw[fI_ h12]at ht;exact ht
 |13,_=>rw[iI_ h13]at ht;exact ht
 |14,_=>exact h9_ (α:=Im) h14 ht
instance:EncO Wt where
 lawO c h w F j y hj ht:=akn_ h w F j y hj ht
 okO c h:=by
  have h:wtOk c=true:=h
  simp only[wtOk,Bool.and_eq_true]at h
  obtain⟨⟨⟨⟨⟨⟨⟨⟨⟨⟨⟨⟨⟨⟨h0,h1⟩,h2⟩,h3⟩,h4⟩,h5⟩,h6⟩,h7⟩,h8⟩,h9⟩,h10⟩,h11⟩,h12⟩,h13⟩,h14⟩:=h
  exact afq_ (k1_ h14) (b7_ h14).1 (b7_ h14).2
theorem alc_{c:Nat→Td}(h:ssOk c=true)(w:World)(F:Nat→Prop)(j:Nat)(y:Value)(hj:j<8)(ht:TRo w F (c j) y):TRo w F (ssE (ssD c) j) y:=by
 simp only[ssOk,Bool.and_eq_true]at h
 obtain⟨⟨⟨⟨⟨⟨⟨h0,h1⟩,h2⟩,h3⟩,h4⟩,h5⟩,h6⟩,h7⟩:=h
 match j,hj with
 |0,_=>rw[bI_ h0]at ht;exact ht
 |1,_=>rw[iI_ h1]at ht;exact ht
 |2,_=>exact h9_ (α:=U8) h2 ht
 |3,_=>rw[bI_ h3]at ht;exact ht
 |4,_=>exact h9_ (α:=Ms) h4 ht
 |5,_=>exact h9_ (α:=Ms) h5 ht
 |6,_=>exact h9_ (α:=Wt) h6 ht
 |7,_=>rw[iI_ h7]at ht;exact ht
instance:EncO Ss where
 lawO c h w F j y hj ht:=alc_ h w F j y hj ht
 okO c h:=by
  have h:ssOk c=true:=h
  simp only[ssOk,Bool.and_eq_true]at h
  obtain⟨⟨⟨⟨⟨⟨⟨h0,h1⟩,h2⟩,h3⟩,h4⟩,h5⟩,h6⟩,h7⟩:=h
  exact W0_ (k1_ h2) (b7_ h2).1 (b7_ h2).2 (k1_ h4) (b7_ h4).1 (b7_ h4).2 (k1_ h5) (b7_ h5).1 (b7_ h5).2 (k1_ h6) (b7_ h6).1 (b7_ h6).2
def outV(K:AE→List (Option AObj)→Prop)(f:AFr)(st2:ASt):Prop:=match f.tmps.get 0 with
 |some v2=>K (.returned v2) (memL st2)
 |none=>False
def outC(E:Nat)(K:AE→List (Option AObj)→Prop)(r:AE)(st:ASt):Prop:=match r with
 | .returned v=>A0_ E [0] (outV K) (mkF 1 [(0,v)]) st
 | .panicked v=>K (.panicked v) (memL st)
theorem PostE.canon{β:Bs}{E:Nat}{K:AE→List (Option AObj)→Prop}{e:Ending}{w':World}(hE:β.X.length=E)(hB:β.B≤w'.heap.size)(h:PostE β (outC E K) e w'):PostE β (outK K) e w':=by
 obtain⟨⟨r,st',ρ',h1,hK,hw,hwf,hfr,how,hfz,hext⟩,hb⟩:=h
 cases r with
 |panicked v=>exact⟨⟨_,st',ρ',h1,hK,hw,hwf,hfr,how,hfz,hext⟩,hb⟩
 |returned v=>
  obtain⟨y,rfl,hy⟩:=h1
  have hfrm:FrR ρ' (mkF 1 [(0,v)]) ⟨#[y],[]⟩:=by
   refine⟨rfl,fun t u ht=> ?_,trivial⟩
   rcases mkFT_get _ _ _ _ ht with h2|h2
   ·simp at h2
    obtain⟨rfl,rfl⟩:=h2
    exact⟨y,rfl,hy⟩
   ·cases h2
  have hK:A0_ E [0] (outV K) (mkF 1 [(0,v)]) st':=hK
  obtain⟨ρ1,f1,st1,hk,hR⟩:=m0_ hK hE (⟨hfrm,hw,hwf,hfr,how,hb,hB,hext,hfz⟩:Rl β ρ' (mkF 1 [(0,v)]) st' ⟨#[y],[]⟩ w')
  unfold outV at hk
  cases hq:f1.tmps.get 0 with
  |none=>rw[hq]at hk;exact hk.elim
  |some v2=>
   rw[hq]at hk
   obtain⟨y2,e1,e2⟩:=hR.fr.tmp 0 v2 hq
   have e1:(#[y]:Array Value)[0]? =some y2:=e1
   simp at e1
   subst e1
   exact⟨⟨.returned v2,st1,ρ1,⟨_,rfl,e2⟩,hk,hR.wr,hR.wf,hR.fresh,hR.own,hR.fzb,hR.ext⟩,hR.bel⟩
def outA(E:Nat)(a:Ans):AE→ASt→Prop:=outC E fun r l=> ∃l2,a6_ l l2∧ansE a r (mkS l2)
def LawC(P:Program)(g:FuncId)(ts:List Ta)(a:Ans):Prop:= ∃(C:Told) (fuel n:Nat) (un:Nat→Nat) (lvs:Nat→List Nat) (ex:Nat→Kt→Prop),a8_ P C∧ ∀β:Bs,β.X.length=(layA ts 0).2.length→lawE P C fuel n β un (cnOf (layA ts 0).2.length lvs) ex g (layA ts 0).1 (mkS ((layA ts 0).2.map some)) (outA (layA ts 0).2.length a)
theorem J4_{P:Program}{g:FuncId}{ts:List Ta}{a:Ans}(hm:P.follows .mixedOrders=true)(h:LawC P g ts a)
  (w:World) (args':Array Value) (F:Nat→Prop) (hF: ∀b,F b→b<w.heap.size) (ha:PW (TaR w F) ts args'.toList):Calls P g args' w fun e w'=>AnsR w F a e w':=by
 obtain⟨C,fuel,n,un,lvs,ex,hC,hl⟩:=h
 obtain⟨S,s1,s2⟩:=P1_ hF ha
 have hlen:=(s1 0).len
 have hv:=s2 S 0 (fun i s hs=>by rw[Nat.zero_add];exact hs)
 have hl':=hl ⟨w.heap.size,w,S,F,noW⟩ hlen
 rw[←hlen]at hl'
 refine(B7_ (F:=F) hm hC w hlen (fun k s o h1 h2=>((s1 0).ok k s o h1 h2).1 _ _) (fun s hs hvd=> ?_) (fun s hs b hb=> ?_) hF hv hl').mono fun e w' he=>((he.canon rfl he.bel.size).objs).ans
 ·obtain⟨i,hi⟩:=List.getElem?_of_mem hs
  have hil:=(List.getElem?_eq_some_iff.1 hi).1
  exact((s1 0).ok i s _ hi (List.getElem?_eq_getElem (by omega))).2.1 hvd
 ·obtain⟨i,hi⟩:=List.getElem?_of_mem hs
  have hil:=(List.getElem?_eq_some_iff.1 hi).1
  have:=((s1 0).ok i s _ hi (List.getElem?_eq_getElem (by omega))).2.2
  rw[this]at hb;exact hb
class ArgE (α:Type) where
 okA:Ta→Bool
 get:Ta→α
 ta:α→Ta
 good:α→Prop
 law: ∀t,okA t=true→good (get t)∧ ∀w F y,TaR w F t y→TaR w F (ta (get t)) y
structure Rw (α:Type) where
 l:List α
 c:Nat
structure Sc (α:Type) where
 x:α
instance:ArgE Int where
 okA t:=match t with
  | .cell (.sc (.int .i64 _))=>true
  |_=>false
 get t:=match t with
  | .cell (.sc (.int .i64 x))=>x
  |_=>0
 ta x:= .cell (.sc (.int .i64 x))
 good _:=True
 law t h:=by
  split at h
  ·exact⟨trivial,fun w F y hy=>hy⟩
  ·cases h
instance:ArgE Bool where
 okA t:=match t with
  | .cell (.sc (.bool _))=>true
  |_=>false
 get t:=match t with
  | .cell (.sc (.bool x))=>x
  |_=>false
 ta x:= .cell (.sc (.bool x))
 good _:=True
 law t h:=by
  split at h
  ·exact⟨trivial,fun w F y hy=>hy⟩
  ·cases h
instance:ArgE St where
 okA t:=match t with
  | .cell (.sc (.string _))=>true
  |_=>false
 get t:=match t with
  | .cell (.sc (.string x))=>⟨x⟩
  |_=>⟨⟨#[]⟩⟩
 ta x:= .cell (.sc (.string x.s))
 good _:=True
 law t h:=by
  split at h
  ·exact⟨trivial,fun w F y hy=>hy⟩
  ·cases h
instance {α:Type} [Enc α] [EncO α]:ArgE (Rw α) where
 okA t:=match t with
  | .cell u=>okT α u
  |_=>false
 get t:=match t with
  | .cell u=>⟨a4_ α u,nilT u⟩
  |_=>⟨[],0⟩
 ta r:= .cell (tdL r.l r.c)
 good r:=r.l.all (okA α)=true∧r.l.length≤1000000∧r.c≤1
 law t h:=by
  split at h
  ·obtain⟨h1,h2⟩:=b7_ h
   exact⟨⟨k1_ h,h1,h2⟩,fun w F y hy=>h9_ h hy⟩
  ·cases h
instance {α:Type} [Enc α] [EncO α]:ArgE (Sc α) where
 okA t:=match t with
  | .agg cs=>Nat.beq cs.length (Enc.es α)&&Enc.ok α (nthT cs)
  |_=>false
 get t:=match t with
  | .agg cs=>⟨Enc.dec (nthT cs)⟩
  |_=>⟨Enc.dflt⟩
 ta r:= .agg (b1_ r.x)
 good r:=okA α r.x=true
 law t h:=by
  split at h
  ·simp only[Bool.and_eq_true]at h
   have h1:=Nat.eq_of_beq_eq_true h.1
   refine⟨EncO.okO _ h.2,fun w F y hy=> ?_⟩
   obtain⟨a,rfl,hy⟩:=hy
   exact⟨a,rfl,B8_ h1 h.2 hy⟩
  ·cases h
section
variable {P:Program} {g:FuncId} {α β γ δ:Type} [ArgE α] [ArgE β] [ArgE γ] [ArgE δ]
def okA1(α:Type)[ArgE α](p:α→Bool)(ts:List Ta):Bool:=match ts with
 |[t]=>ArgE.okA α t&&p (ArgE.get t)
 |_=>false
def g9_(α:Type)[ArgE α](A:α→Ans)(ts:List Ta):Ans:=match ts with
 |[t]=>A (ArgE.get t)
 |_=> .pan .nilIface
theorem l0_{p:α→Bool}{A:α→Ans}(hm:P.follows .mixedOrders=true)
  (h: ∀x:α,ArgE.good x→p x=true→LawC P g [ArgE.ta x] (A x)):c5_ P g (okA1 α p) (g9_ α A):=by
 intro ts hok w args' F hF ha
 unfold okA1 at hok
 split at hok
 ·rename_i t
  simp only[Bool.and_eq_true]at hok
  obtain⟨h1,h2⟩:=ArgE.law t hok.1
  obtain⟨y,m,e,hy,hm'⟩:=ha.uncons
  have:=hm'.nil_inv
  subst this
  exact J4_ hm (h _ h1 hok.2) w args' F hF (by rw[e];exact PW.cons (h2 _ _ _ hy) (PW.nil _))
 ·cases hok
def okA2(α β:Type)[ArgE α][ArgE β](p:α→β→Bool)(ts:List Ta):Bool:=match ts with
 |[t,u]=>ArgE.okA α t&&ArgE.okA β u&&p (ArgE.get t) (ArgE.get u)
 |_=>false
def t0_(α β:Type)[ArgE α][ArgE β](A:α→β→Ans)(ts:List Ta):Ans:=match ts with
 |[t,u]=>A (ArgE.get t) (ArgE.get u)
 |_=> .pan .nilIface
theorem D4_{p:α→β→Bool}{A:α→β→Ans}(hm:P.follows .mixedOrders=true)
  (h: ∀(x:α) (y:β),ArgE.good x→ArgE.good y→p x y=true→LawC P g [ArgE.ta x,ArgE.ta y] (A x y)):c5_ P g (okA2 α β p) (t0_ α β A):=by
 intro ts hok w args' F hF ha
 unfold okA2 at hok
 split at hok
 ·rename_i t u
  simp only[Bool.and_eq_true]at hok
  obtain⟨⟨o1,o2⟩,o3⟩:=hok
  obtain⟨h1,h2⟩:=ArgE.law t o1
  obtain⟨k1,k2⟩:=ArgE.law u o2
  obtain⟨y,m,e,hy,hm'⟩:=ha.uncons
  obtain⟨z,m2,rfl,hz,hm2⟩:=hm'.uncons
  have:=hm2.nil_inv
  subst this
  exact J4_ hm (h _ _ h1 k1 o3) w args' F hF (by rw[e];exact PW.cons (h2 _ _ _ hy) (PW.cons (k2 _ _ _ hz) (PW.nil _)))
 ·cases hok
end
def raOf:Td→Ra
 | .sc v=> .sc v
 | .fr es n c e=> .own es n c e
def ansO{α:Type}[Enc α](x:α):Rv:= .agg ((b1_ x).map raOf)
def ansW{α:Type}[Enc α](l:List α)(c:Nat):Rv:= .cell (.own (Enc.es α) l.length c (encL l))
theorem i4_{st:ASt}:rasE st [] [] []:=rfl
theorem rS_{st:ASt}{rs:List Ra}{vs:List Value}{l:List Nat}{v x:Value}(hx:v=x)(hv:s2_ v=true)(h:rasE st rs vs l):rasE st (.sc x::rs) (v::vs) l:=⟨[],l,rfl,⟨rfl,hx,hv⟩,h⟩
theorem rO_{st:ASt}{rs:List Ra}{r:Ra}{vs:List Value}{l1 l2:List Nat}{v:Value}(h1:raE st r v l1)(h:rasE st rs vs l2):rasE st (r::rs) (v::vs) (l1++l2):=⟨l1,l2,rfl,h1,h⟩
theorem rN_{st:ASt}{es n c:Nat}{e:Nat→Nat→Td}(hn:n=0)(hc:c=1):raE st (.own es n c e) (.slice none 0 0) []:= .inl ⟨rfl,rfl,hn,hc⟩
theorem E6_{st:ASt}{k es n c c0:Nat}{e:Nat→Nat→Td}{i0 lo m:Nat}{g:Nat→Nat→Td}(hg:st.h.get k=some (.row .mine es lo m g))(hc:n=0→c0=c)(h1:lo≤i0)(h2:i0+n≤m)(h3: ∀i,i<n→ ∀j,j<es→g (i0+i) j=e i j):raE st (.own es n c e) (.slice (some ⟨k,0,some i0⟩) n c0) [k]:= .inr (.inl ⟨k,i0,lo,m,g,c0,rfl,rfl,hc,hg,h1,h2,h3⟩)
end Go.Proofs.YtachglcffimmeaaGreat.Ev
end
section
namespace Go.Proofs.YtachglcffimmeaaGreat.Ev
open Go Go.Proofs Go.RowKit
def c2_(a b:Ms):Bool:=cond (a.k !=b.k) false (cond (a.id !=b.id) false (cond (a.er !=b.er) false (cond (a.n !=b.n) false (cond (a.sq !=b.sq) false (cond (!(a.lo==b.lo)) false (cond (a.ev !=b.ev) false
 (cond (a.bd.k==b.bd.k) (cond (a.bd.i==b.bd.i) (cond (!(h6_ a.bd.f b.bd.f)) false (cond (!(d5_ a.vs b.vs)) false (cond (Int.ofNat a.ps.length !=Int.ofNat b.ps.length) false (o0_ a.ps b.ps)))) false) false)))))))
def ISm(a b:Ms)(k:Nat):Prop:=k≤a.ps.length∧ ∀j,j<k→((a.ps.getD j Enc.dflt).s.data.toList==(b.ps.getD j Enc.dflt).s.data.toList)=true
theorem alg_{a b:Ms}{β:Bs}(hβ:β.X.length=4)(hl:a.ps.length≤1000000)(hab:a.ps.length=b.ps.length):LoopJ Tryz.prog β (exSm a b) 0 (a5_ Tryz.prog 12 0) (FSm (0:Nat)) (SSm a b):=by
 refine b2_ (ISm a b) (fun k:Nat=>FSm (k:Nat)) (fun _=>SSm a b) (fun k=>a.ps.length-k) (fun k hI K hK=> ?_) 0 ⟨Nat.zero_le _,fun j hj=>by omega⟩
 obtain⟨hK1,hK2⟩:=hK
 obtain⟨hk,hI⟩:=hI
 show J _ β _ _ _ (Nn β (ISm a b) (fun k=>a.ps.length-k) (fun k:Nat=>FSm (k:Nat)) (fun _=>SSm a b) k K)
 refine rJ_ (E:=4) (lvs:=fun _=>slSm) (un:=fun _=>0) (fuel:=100) (n:=20) (ex:=fun _ _=>False) follows toldP5_ok hβ (lv:=lvSm) ?_
 rw[akw_]
 refine a0_ (fun hlt=> ?_) (fun hlt=> ?_)
 ·have hlt:k<a.ps.length:=by simpa using hlt
  have e0:Int.toNat (k:Int)=k:=Int.toNat_natCast k
  have hw:IntKind.wrap .i64 ((k:Int)+1)=((k+1:Nat):Int):=w64 (by omega) (by omega)
  rw[e0,Nat.zero_add,hw]
  refine nd_ (by simp) (nd_ (by simpa using hlt) (nd_ (by simpa using hlt) (nd_ (by simp) (nd_ (by simpa using(show k<b.ps.length by omega)) (nd_ (by simpa using(show k<b.ps.length by omega)) (a0_ (fun hq=> ?_) (fun hq=> ?_)))))))
  ·refine Nn.ret (Seen.refl _ _ _) (hK1 ?_)
   unfold o0_
   rw[Bool.eq_false_iff]
   intro h
   rw[List.all_eq_true]at h
   rw[h k (List.mem_range.2 hlt)]at hq
   cases hq
  ·refine Nn.next (I:=ISm a b) (m:=fun k=>a.ps.length-k) (F:=fun k:Nat=>FSm (k:Nat)) (S:=fun _=>SSm a b) (p:=k) (k+1) ⟨hlt,fun j hj=> ?_⟩ (by show a.ps.length-(k+1)<a.ps.length-k;omega) (Seen.refl _ _ _)
   by_cases hjk:j=k
   ·subst hjk;rw[Bool.not_eq_false']at hq;exact hq
   ·exact hI j (by omega)
 ·have hge: ¬k<a.ps.length:=by simpa using hlt
  have hkn:k=a.ps.length:=by omega
  subst hkn
  refine Nn.exit (Seen.refl _ _ _) (hK2 ?_)
  unfold o0_
  rw[List.all_eq_true]
  intro j hj
  exact hI j (List.mem_range.1 hj)
theorem bL_{b:Bool}{m:List (Option AObj)}{c:Bool}(h:c=b): ∃m2,a6_ m m2∧ansE (bAns b) (.returned (.bool c)) (mkS m2):=by
 subst h
 exact⟨m,a6_.refl _,[],⟨rfl,rfl,rfl⟩,List.nodup_nil⟩
theorem oMa{x:Ms}(h:okA Ms x=true):x.ps.length≤1000000∧x.cps≤1∧x.vs.length≤1000000∧x.cvs≤1:=by
 obtain⟨_,h1,h2,_,h3,h4⟩:=r1_ h
 exact⟨h1,h2,h3,h4⟩
theorem alf_:c5_ Tryz.prog 12 (okS2 Ms fun _ _=>true) (ana_ Ms fun a b=>bAns (c2_ a b)):=by
 refine anQ_ follows fun a b ha hb _=>⟨toldP5,100,20,fun _=>0,fun _=>slSm,exSm a b,toldP5_ok,fun β hβ=> ?_⟩
 obtain⟨a1,a2,a3,a4⟩:=oMa ha
 obtain⟨b1,b2,b3,b4⟩:=oMa hb
 show lawE Tryz.prog toldP5 100 20 β (fun _=>0) (cnOf 4 fun _=>slSm) (exSm a b) 12 [amV a 0 1,amV b 2 3] (mkS (viSm a b)) (outK fun r m=> ∃m2,a6_ m m2∧ansE (bAns (c2_ a b)) r (mkS m2))
 refine(apj_ a b β _).mpr ?_
 try dsimp only
 have o1:=d0_ (α:=Vl) (l:=a.vs) (c:=a.cvs) (allV _) a3 a4
 have o2:=d0_ (α:=Vl) (l:=b.vs) (c:=b.cvs) (allV _) b3 b4
 have hk:ok2 Vl Vl (fun _ _ _ _=>true) [.cell (tdL a.vs a.cvs),.cell (tdL b.vs b.cvs)]=true:=by
  show(okT Vl _&&okT Vl _&&true)=true
  rw[o1,o2];rfl
 have e1:a4_ Vl (tdL a.vs a.cvs)=a.vs:=lT_ _ _
 have e2:a4_ Vl (tdL b.vs b.cvs)=b.vs:=lT_ _ _
 unfold tdL at hk e1 e2
 have z1:=encZ a.vs
 have z2:=encZ b.vs
 refine a0_ (fun q=>bL_ (by unfold c2_;rw[q];rfl)) (fun q1=>a0_ (fun q=>bL_ (by unfold c2_;rw[q1,q];rfl)) (fun q2=>a0_ (fun q=>bL_ (by unfold c2_;rw[q1,q2,q];rfl)) (fun q3=>a0_ (fun q=>bL_ (by unfold c2_;rw[q1,q2,q3,q];rfl)) (fun q4=>
  a0_ (fun q=>bL_ (by unfold c2_;rw[q1,q2,q3,q4,q];rfl)) (fun q5=>a0_ (fun q=>bL_ (by unfold c2_;rw[q1,q2,q3,q4,q5,q];rfl)) (fun q6=>a0_ (fun q=>bL_ (by unfold c2_;rw[q1,q2,q3,q4,q5,q6,q];rfl)) (fun q7=>
  a0_ (fun q8=>a0_ (fun q9=>a0_ (fun q=>bL_ (by unfold c2_;rw[q1,q2,q3,q4,q5,q6,q7,q8,q9,q];rfl)) (fun q10=> ?_)) (fun q=>bL_ (by unfold c2_;rw[q1,q2,q3,q4,q5,q6,q7,q8,q];rfl))) (fun q=>bL_ (by unfold c2_;rw[q1,q2,q3,q4,q5,q6,q7,q];rfl)))))))))
 have hs:c2_ a b=cond (!(d5_ a.vs b.vs)) false (cond (Int.ofNat a.ps.length !=Int.ofNat b.ps.length) false (o0_ a.ps b.ps)):=by unfold c2_;rw[q1,q2,q3,q4,q5,q6,q7,q8,q9,q10];rfl
 refine nd_ (by simp) (nd_ (by simp) (nd_ ?_ ?_))
 ·rw[z1,z2];exact hk
 ·rw[z1,z2]
  rw[show a4_ Vl (Td.fr 3 a.vs.length a.cvs (encL a.vs))=a.vs from e1,show a4_ Vl (Td.fr 3 b.vs.length b.cvs (encL b.vs))=b.vs from e2]
  refine a0_ (fun q=>bL_ (by rw[hs,q];rfl)) (fun q11=>a0_ (fun q=>bL_ (by rw[hs,q11,q];rfl)) (fun q12=> ?_))
  have hab:a.ps.length=b.ps.length:=by
   have:(Int.ofNat a.ps.length !=Int.ofNat b.ps.length)=false:=q12
   have:=(bne_eq_false_iff_eq).1 this
   exact Int.ofNat.inj this
  refine⟨alg_ hβ a1 hab,fun h=>bL_ ?_,fun h=>bL_ ?_⟩
  ·rw[hs,q11,q12,h];rfl
  ·rw[hs,q11,q12,h];rfl
def J5_:Told:=toldP5.tree 12 (okS2 Ms fun _ _=>true) (ana_ Ms fun a b=>bAns (c2_ a b))
theorem D3_:a8_ Tryz.prog J5_:=Told.tree_ok toldP5_ok alf_
end Go.Proofs.YtachglcffimmeaaGreat.Ev
end
