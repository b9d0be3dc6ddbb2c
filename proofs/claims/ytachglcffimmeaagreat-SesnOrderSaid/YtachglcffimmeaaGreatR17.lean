/-
  Functions that change what they are given: told by what stands in memory behind them.
-/
import Derived.Test.YtachglcffimmeaaGreatR16
set_option linter.unusedVariables false
set_option linter.unusedSimpArgs false
namespace Go.Proofs.YtachglcffimmeaaGreat.Ev
open Go Go.RowKit
abbrev Lk:=Nat→Option Nat
def bkA(μ:Lk)(a:Addr)(K:Addr→Value):Value:=match μ a.block with
 |some i=>K ⟨i,a.off,a.spot⟩
 |none=>bad
def bk(μ:Lk):Value→Value
 | .bool b=> .bool b
 | .int k n=> .int k n
 | .float k b=> .float k b
 | .string s=> .string s
 | .pointer none=> .pointer none
 | .pointer (some a)=>bkA μ a fun a=> .pointer (some a)
 | .slice none 0 0=> .slice none 0 0
 | .slice (some a) n c=>bkA μ a fun a=> .slice (some a) n c
 | .map none=> .map none
 | .map (some r)=>match μ r with
  |some i=> .map (some i)
  |none=>bad
 | .nilFunc=> .nilFunc
 | .nilIface=> .nilIface
 |_=>bad
def bkV(μ:Lk):Value→Value
 | .agg vs=> .agg ⟨vs.toList.map (bk μ)⟩
 | .tuple vs=> .tuple ⟨vs.toList.map (bk μ)⟩
 |v=>bk μ v
def bkE(μ:Lk):AE→AE
 | .returned v=> .returned (bkV μ v)
 | .panicked v=> .panicked v
structure Like (s t:Spot):Prop where
 blk:t.blk=s.blk
 base:t.base=s.base
 ex:t.ex=s.ex
 es:t.es=s.es
 room:t.room=s.room
 void:t.void=s.void
structure LkR (μ ν:Lk) (ρ ρ':Rho):Prop where
 dom: ∀i a,ν i=some a→ ∃x,μ i=some x
 at_: ∀(i x a:Nat) (s:Spot),μ i=some x→ν i=some a→ρ x=some s→ ∃t,ρ' a=some t∧Like s t
theorem y0_{μ ν:Lk}{ρ ρ':Rho}(H:LkR μ ν ρ ρ'){v y:Value}(h:VR ρ (bk μ v) y):VR ρ' (bk ν v) y:=by
 cases v with
 |bool b=>simp only[bk]at h ⊢;cases h;exact .bool b
 |int k n=>simp only[bk]at h ⊢;cases h;exact .int k n
 |float k b=>simp only[bk]at h ⊢;cases h with
  |float=>exact .float k b
  |nan _ _ b' h1 h2=>exact .nan k b b' h1 h2
 |string s=>simp only[bk]at h ⊢;cases h;exact .string s
 |nilFunc=>simp only[bk]at h ⊢;cases h;exact .nilFunc
 |nilIface=>simp only[bk]at h ⊢;cases h;exact .nilIface
 |pointer p=>
  cases p with
  |none=>simp only[bk]at h ⊢;cases h;exact .ptrNil
  |some a=>
   simp only[bk,bkA]at h ⊢
   cases hn:ν a.block with
   |none=>exact .any _
   |some a'=>
    obtain⟨x,hx⟩:=H.dom _ _ hn
    rw[hx]at h
    simp only at h ⊢
    obtain⟨ab,ao,asp⟩:=a
    simp only at h hx hn ⊢
    cases h with
    |ptr _ o s hs=>
     obtain⟨t,h1,h2⟩:=H.at_ _ _ _ _ hx hn hs
     have:=VR.ptr (ρ:=ρ') a' ao t h1
     rw[h2.blk,h2.base]at this;exact this
    |ptrI _ j i s hs=>
     obtain⟨t,h1,h2⟩:=H.at_ _ _ _ _ hx hn hs
     have:=VR.ptrI (ρ:=ρ') a' ao i t h1
     rw[h2.blk,h2.base,h2.es]at this;exact this
 |slice p n c=>
  cases p with
  |none=>
   cases n with
   |zero=>cases c with
    |zero=>simp only[bk]at h ⊢;cases h;exact .sliceNil
    |succ c=>exact .any _
   |succ n=>exact .any _
  |some a=>
   simp only[bk,bkA]at h ⊢
   cases hn:ν a.block with
   |none=>exact .any _
   |some a'=>
    obtain⟨x,hx⟩:=H.dom _ _ hn
    rw[hx]at h
    simp only at h ⊢
    obtain⟨ab,ao,asp⟩:=a
    simp only at h hx hn ⊢
    cases h with
    |slice _ o s _ _ c' o' hs hnc hc hxx hr ho=>
     obtain⟨t,h1,h2⟩:=H.at_ _ _ _ _ hx hn hs
     have:=VR.slice (ρ:=ρ') a' ao t n c c' o' h1 hnc hc (by rw[h2.ex];exact hxx) (by rw[h2.ex,h2.es,h2.room];exact hr) (by rw[h2.base];exact ho)
     rw[h2.blk]at this;exact this
    |sliceI _ i s _ _ c' o' hs hnc hc hr hv ho=>
     obtain⟨t,h1,h2⟩:=H.at_ _ _ _ _ hx hn hs
     have:=VR.sliceI (ρ:=ρ') a' i t n c c' o' h1 hnc hc (by rw[h2.ex,h2.es,h2.room];exact hr) (by rw[h2.void];exact hv) (by rw[h2.base,h2.es];exact ho)
     rw[h2.blk]at this;exact this
    |sliceE _ i c' x' s hs hxx=>
     obtain⟨t,h1,h2⟩:=H.at_ _ _ _ _ hx hn hs
     exact .sliceE a' i c' x' t h1 (by rw[h2.ex];exact hxx)
    |sliceN=>exact .sliceN _ _
    |sliceZ=>exact .sliceZ _ _ _
    |sliceX=>exact .sliceX _ _ _
 |map p=>
  cases p with
  |none=>simp only[bk]at h ⊢;cases h;exact .mapNil
  |some r=>
   simp only[bk]at h ⊢
   cases hn:ν r with
   |none=>exact .any _
   |some a'=>
    obtain⟨x,hx⟩:=H.dom _ _ hn
    rw[hx]at h
    simp only at h ⊢
    cases h with
    |map _ s hs=>
     obtain⟨t,h1,h2⟩:=H.at_ _ _ _ _ hx hn hs
     have:=VR.map (ρ:=ρ') a' t h1
     rw[h2.blk]at this;exact this
 |_=>exact .any _
theorem aoM_{μ ν:Lk}{ρ ρ':Rho}(H:LkR μ ν ρ ρ'){v y:Value}(h:VR ρ (bkV μ v) y):VR ρ' (bkV ν v) y:=by
 have arr: ∀(l:List Value) (a':Array Value),(l.map (bk μ)).length=a'.size→(∀(i:Nat) (x y:Value),(l.map (bk μ))[i]? =some x→a'[i]? =some y→VR ρ x y)→ ∀(i:Nat) (x y:Value),(l.map (bk ν))[i]? =some x→a'[i]? =some y→VR ρ' x y:=by
  intro l a' hs h i x y hx hy
  rw[List.getElem?_map]at hx
  cases hq:l[i]? with
  |none=>rw[hq]at hx;cases hx
  |some u=>rw[hq]at hx;cases hx;exact y0_ H (h i _ y (by rw[List.getElem?_map,hq];rfl) hy)
 cases v with
 |agg vs=>
  simp only[bkV]at h ⊢
  cases h with
  |agg _ a' ha hh=>exact .agg _ _ (by simpa using ha) fun i x y hx hy=>arr vs.toList a' (by simpa using ha) (fun i x y hx hy=>hh i x y (by simpa using hx) hy) i x y (by simpa using hx) hy
 |tuple vs=>
  simp only[bkV]at h ⊢
  cases h with
  |tuple _ a' ha hh=>exact .tuple _ _ (by simpa using ha) fun i x y hx hy=>arr vs.toList a' (by simpa using ha) (fun i x y hx hy=>hh i x y (by simpa using hx) hy) i x y (by simpa using hx) hy
 |bool b=>exact y0_ (v:= .bool b) H h
 |int k n=>exact y0_ (v:= .int k n) H h
 |float k b=>exact y0_ (v:= .float k b) H h
 |string q=>exact y0_ (v:= .string q) H h
 |pointer q=>exact y0_ (v:= .pointer q) H h
 |slice q n c=>exact y0_ (v:= .slice q n c) H h
 |map q=>exact y0_ (v:= .map q) H h
 |nilFunc=>exact y0_ (v:= .nilFunc) H h
 |nilIface=>exact y0_ (v:= .nilIface) H h
 |_=>exact .any _
def bkO(μ:Lk):AObj→AObj
 | .cells cs ex es=> .cells (cs.map (bk μ)) ex es
 | .old cs ex es=> .old (cs.map (bk μ)) ex es
 | .row k es lo n elem=> .row k es lo n elem
 | .map es clock=> .map (es.map fun e=>{e with val:=bk μ e.val}) clock
 | .omap kk vk es=> .omap kk vk es
 | .iter s p=> .iter s p
theorem k7_{μ:Lk}(o:AObj):(bkO μ o).isOwn=o.isOwn:=by
 cases o with
 |row k=>cases k<;>rfl
 |_=>rfl
theorem ObjR.like{ρ:Rho}{o:AObj}{s t:Spot}{w:World}(h:ObjR ρ o s w)(hs:Like s t):ObjR ρ o t w:=by
 obtain⟨h1,h2,h3,h4,h5,h6⟩:=hs
 cases o<;>simp only[ObjR,h1,h2,h3,h4,h5,h6]at h ⊢ <;>exact h
theorem aqk_{μ ν:Lk}{ρ ρ':Rho}(H:LkR μ ν ρ ρ')(hz: ∀b,Frz ρ b→Frz ρ' b){o:AObj}{s:Spot}{w:World}(h:ObjR ρ (bkO μ o) s w):ObjR ρ' (bkO ν o) s w:=by
 have key: ∀(cs:List Value) (i:Nat) (x:Value),(cs.map (bk ν))[i]? =some x→ ∃u,cs[i]? =some u∧x=bk ν u∧(cs.map (bk μ))[i]? =some (bk μ u):=fun cs i x hx=>by
  rw[List.getElem?_map]at hx
  cases hq:cs[i]? with
  |none=>rw[hq]at hx;cases hx
  |some u=>rw[hq]at hx;cases hx;exact⟨u,rfl,rfl,by rw[List.getElem?_map,hq];rfl⟩
 cases o with
 |cells cs ex es=>
  obtain⟨h0,h1,h2,C,t,fr,h3,h4,h5,h6,h7⟩:=h
  refine⟨h0,h1,h2,C,t,fr,h3,h4,h5,by simpa using h6,fun i x hx=> ?_⟩
  obtain⟨u,k1,rfl,k2⟩:=key cs i x hx
  obtain⟨y,hy,hv⟩:=h7 i _ k2
  exact⟨y,hy,y0_ H hv⟩
 |old cs ex es=>
  obtain⟨h0,h1,h2,hz1,C,t,fr,h3,h6,h7⟩:=h
  refine⟨h0,h1,h2,hz _ hz1,C,t,fr,h3,by simpa using h6,fun i x hx=> ?_⟩
  obtain⟨u,k1,rfl,k2⟩:=key cs i x hx
  obtain⟨y,hy,hv⟩:=h7 i _ k2
  exact⟨y,hy,y0_ H hv⟩
 |row own es lo n elem=>
  obtain⟨k1,k2,k3,kz,k4⟩:=h
  refine⟨k1,k2,k3,fun h1 h2=>hz _ (kz h1 h2),fun i h1 h2 j hj=> ?_⟩
  obtain⟨y,hy,h1c,hv⟩:=k4 i h1 h2 j hj
  exact⟨y,hy,h1c,hv.kept hz (fun _ _=>rfl)⟩
 |map es clock=>
  obtain⟨h0,E,h1,h2,h3⟩:=h
  refine⟨h0,E,h1,by simpa using h2,fun i e he=> ?_⟩
  simp only[List.getElem?_map]at he
  cases hq:es[i]? with
  |none=>rw[hq]at he;cases he
  |some u=>
   rw[hq]at he;cases he
   obtain⟨e',a1,a2,a3,a4,a5⟩:=h3 i {u with val:=bk μ u.val} (by rw[List.getElem?_map,hq];rfl)
   exact⟨e',a1,a2,a3,a4,y0_ H a5⟩
 |omap kk vk es=>exact h
 |iter str pos=>exact h
inductive Up where
 |same
 |gone
 |to (o:AObj)
structure Sp where
 b:Bool
 view:List (Option AObj)
 ret:AE
 ups:List Up
 news:List AObj
def adJ_(l l2:List (Option AObj)):Prop:=l2.length=l.length∧ ∀(i:Nat) o2,l2[i]? =some (some o2)→ ∃o1,l[i]? =some (some o1)∧(o2.isOwn=true→o1.isOwn=true)∧ ∀ρ s w,ObjR ρ o1 s w→ObjR ρ o2 s w
theorem adJ_.refl(l:List (Option AObj)):adJ_ l l:=⟨rfl,fun i o h=>⟨o,h,fun h=>h,fun _ _ _ h=>h⟩⟩
def j0_:AObj→Bool
 | .row .look .. =>false
 |_=>true
def t3_:List (Option AObj)→List Up→Bool
 |[],[]=>true
 |o::l,u::us=>(match u with
  | .same=>(match o with|some o=> !o.isOwn|none=>true)
  | .gone=>true
  | .to o=>j0_ o)&&t3_ l us
 |_,_=>false
def upSt(μ:Lk)(a:Nat)(u:Up)(st:ASt):ASt:=match u with
 | .same=>st
 | .gone=>st.set a none
 | .to o=>st.set a (some (bkO μ o))
def ahr_(μ:Lk)(u:Up)(o:Option AObj):Option AObj:=match u with
 | .same=>o
 | .gone=>none
 | .to o=>some (bkO μ o)
def o3_(μ:Lk):List Nat→List Up→ASt→ASt
 |a::l,u::us,st=>o3_ μ l us (upSt μ a u st)
 |_,_,st=>st
theorem Z7_{μ:Lk}{a y:Nat}(u:Up)(st:ASt)(hy:y≠a):(upSt μ a u st).h.get y=st.h.get y:=by
 cases u with
 |same=>rfl
 |gone=>simp only[upSt,ASt.set,b0_];exact a2_ _ _ hy
 |to o=>simp only[upSt,ASt.set,b0_];exact a2_ _ _ hy
theorem akO_{μ:Lk}{a:Nat}(u:Up)(st:ASt):(upSt μ a u st).h.get a=ahr_ μ u (st.h.get a):=by
 cases u with
 |same=>rfl
 |gone=>simp only[upSt,ahr_,ASt.set,b0_];exact a1_ _ _ _
 |to o=>simp only[upSt,ahr_,ASt.set,b0_];exact a1_ _ _ _
def acK_:AE→Bool
 | .returned _=>true
 | .panicked v=>ground 3 v
def lkOf(keep:List Nat)(nx m:Nat):Lk:=fun i=>match keep[i]? with
 |some a=>some a
 |none=>cond (Nat.blt i (keep.length+m)) (some (nx+(i-keep.length))) none
def lkAt(n:Nat)(nm:List Nat):Lk:=fun i=>cond (Nat.blt i n) (some i) nm[i-n]?
def z2_(μ:Lk):List AObj→ASt→ASt
 |[],st=>st
 |o::l,st=>z2_ μ l (st.new (bkO μ o))
def n7_(args:List Value)(st:ASt):List Nat:=(N8_ st.h 100000 (args.flatMap (idsV 4)) .leaf []).reverse
def K9_(keep:List Nat)(st:ASt):Bool:=K3_ keep&& !(aqc_ keep)&&keep.all fun a=>match st.h.get a with|some _=>true|none=>false
def effK(s:Sp)(r:AE)(st:ASt):Prop:= ∃nm:List Nat,nm.length=s.news.length∧nm.Nodup∧(∀x∈nm,s.view.length≤x)∧r=bkE (lkAt s.view.length nm) s.ret∧
 (∀(i:Nat) o,s.ups[i]? =some (.to o)→st.h.get i=some (bkO (lkAt s.view.length nm) o))∧ ∀(j x:Nat) o,nm[j]? =some x→s.news[j]? =some o→st.h.get x=some (bkO (lkAt s.view.length nm) o)
def effA(keep:List Nat)(s:Sp)(st:ASt):AE×ASt:=
 (bkE (lkOf keep (st.next+1) s.news.length) s.ret,z2_ (lkOf keep (st.next+1) s.news.length) s.news (o3_ (lkOf keep (st.next+1) s.news.length) keep s.ups st).skip)
def effC(spec:List Value→List (Option AObj)→Option Sp):TCon where
 run args st:=cond (K9_ (n7_ args st) st) (match spec (args.map (ren (n7_ args st) 4)) (k2_ (n7_ args st) st)with
  |some s=>cond (s.b&&t3_ s.view s.ups&&s.news.all j0_&&acK_ s.ret) (.ok (effA (n7_ args st) s st)) (.er "eff")
  |none=> .er "eff: shape") (.er "eff: names")
 sym args st K:=cond (K9_ (n7_ args st) st) (match spec (args.map (ren (n7_ args st) 4)) (k2_ (n7_ args st) st)with
  |some s=>need s.b (cond (t3_ s.view s.ups&&s.news.all j0_&&acK_ s.ret) (K (effA (n7_ args st) s st).1 (effA (n7_ args st) s st).2) False)
  |none=>False) False
 ok args st K h:=by
  cases h1:K9_ (n7_ args st) st with
  |false=>rw[h1]at h;exact h.elim
  |true=>
   rw[h1]at h
   simp only[cond_true]at h ⊢
   split at h
   ·rename_i s hs
    obtain⟨h2,h⟩:=ne_ h
    cases h3:(t3_ s.view s.ups&&s.news.all j0_&&acK_ s.ret)with
    |false=>rw[h3]at h;exact h.elim
    |true=>
     rw[h3]at h
     refine⟨_,_,?_,h⟩
     simp only[Bool.and_eq_true]at h3
     simp only[h2,h3.1.1,h3.1.2,h3.2,Bool.and_self,cond_true]
   ·exact h.elim
def Z4_(P:Program)(g:FuncId)(spec:List Value→List (Option AObj)→Option Sp):Prop:= ∀args objs s,spec args objs=some s→s.b=true→adJ_ objs s.view∧
 ∃(C:Told) (fuel n:Nat) (un:Nat→Nat) (lvs:Nat→List Nat) (ex:Nat→Kt→Prop),a8_ P C∧ ∀β:Bs,β.X.length=s.view.length→lawE P C fuel n β un (cnOf s.view.length lvs) ex g args (mkS s.view) (outR (effK s))
abbrev WayW:Type:=Nat→(AE→ASt→Prop)→AE→ASt→Prop
def Z2_(W:WayW):Prop:= ∀(E:Nat) (β:Bs) (K:AE→ASt→Prop) (e:Ending) (w':World),β.X.length=E→β.B≤w'.heap.size→PostE β (W E K) e w'→PostE β K e w'
def q2_(W:WayW)(P:Program)(g:FuncId)(spec:List Value→List (Option AObj)→Option Sp):Prop:= ∀args objs s,spec args objs=some s→s.b=true→adJ_ objs s.view∧
 ∃(C:Told) (fuel n:Nat) (un:Nat→Nat) (lvs:Nat→List Nat) (ex:Nat→Kt→Prop),a8_ P C∧ ∀β:Bs,β.X.length=s.view.length→lawE P C fuel n β un (cnOf s.view.length lvs) ex g args (mkS s.view) (W s.view.length (effK s))
theorem aod_:Z2_ fun _=>outR:=fun _ _ _ _ _ _ _ h=>h.objs
theorem Z4_.g{P:Program}{g:FuncId}{spec:List Value→List (Option AObj)→Option Sp}(h:Z4_ P g spec):q2_ (fun _=>outR) P g spec:=h
theorem acO_{μ:Lk}: ∀{l:List Nat} {us:List Up} {st:ASt} {x:Nat},l.Nodup→us.length=l.length→
  (x∉l∧(o3_ μ l us st).h.get x=st.h.get x)∨ ∃(i:Nat) (u:Up),l[i]? =some x∧us[i]? =some u∧(o3_ μ l us st).h.get x=ahr_ μ u (st.h.get x):=by
 intro l
 induction l with
 |nil=>intro us st x _ _;exact .inl ⟨by simp,by cases us<;>rfl⟩
 |cons a l ih=>
  intro us st x hn hl
  cases us with
  |nil=>simp at hl
  |cons u us=>
   obtain⟨hna,hn⟩:=List.nodup_cons.1 hn
   simp only[o3_]
   rcases ih (us:=us) (st:=upSt μ a u st) (x:=x) hn (by simpa using hl)with⟨h1,h2⟩|⟨i,u',h1,h2,h3⟩
   ·by_cases hx:x=a
    ·subst hx
     exact .inr ⟨0,u,rfl,rfl,h2.trans (akO_ u st)⟩
    ·exact .inl ⟨by simp[hx,h1],h2.trans (Z7_ u st hx)⟩
   ·have hx:x≠a:=fun he=>hna (by rw[←he];exact List.mem_of_getElem? h1)
    refine .inr ⟨i+1,u',by rw[List.getElem?_cons_succ];exact h1,by rw[List.getElem?_cons_succ];exact h2,?_⟩
    rw[h3,Z7_ u st hx]
theorem afh_{μ:Lk}: ∀{l:List Nat} {us:List Up} {st:ASt},(∀a∈l,∃o,st.h.get a=some o)→l.Nodup→LoS st (o3_ μ l us st)∧(o3_ μ l us st).next=st.next:=by
 intro l
 induction l with
 |nil=>intro us st _ _;cases us<;>exact⟨LoS.refl _,rfl⟩
 |cons a l ih=>
  intro us st h hn
  cases us with
  |nil=>exact⟨LoS.refl _,rfl⟩
  |cons u us=>
   obtain⟨hna,hn⟩:=List.nodup_cons.1 hn
   simp only[o3_]
   have h0:LoS st (upSt μ a u st)∧(upSt μ a u st).next=st.next:=by
    cases u with
    |same=>exact⟨LoS.refl _,rfl⟩
    |gone=>exact⟨LoS.set _ _ _ (.inl rfl),rfl⟩
    |to o=>exact⟨LoS.set _ _ _ (.inr (h a (by simp))),rfl⟩
   obtain⟨k1,k2⟩:=ih (us:=us) (st:=upSt μ a u st) (fun b hb=>by
    have hne:b≠a:=fun he=>hna (by rw[←he];exact hb)
    rw[Z7_ u st hne];exact h b (List.mem_cons_of_mem _ hb)) hn
   exact⟨h0.1.trans k1,k2.trans h0.2⟩
theorem R2_: ∀{l:List (Option AObj)} {us:List Up},t3_ l us=true→us.length=l.length
 |[],[],_=>rfl
 |[],_::_,h=>by cases h
 |_::_,[],h=>by cases h
 |o::l,u::us,h=>by
  simp only[t3_,Bool.and_eq_true]at h
  simp[R2_ h.2]
theorem J1_: ∀{l:List (Option AObj)} {us:List Up} {i:Nat} {o:AObj},t3_ l us=true→us[i]? =some .same→l[i]? =some (some o)→o.isOwn=false
 |o::l,u::us,0,o',h,h1,h2=>by
  simp only[t3_,Bool.and_eq_true]at h
  cases h1;cases h2
  simpa using h.1
 |o::l,u::us,i+1,o',h,h1,h2=>by
  simp only[t3_,Bool.and_eq_true]at h
  exact J1_ h.2 (by simpa using h1) (by simpa using h2)
 |[],_,_,_,_,_,h2=>by simp at h2
 |_::_,[],_,_,_,h1,_=>by simp at h1
theorem abj_: ∀{l:List (Option AObj)} {us:List Up} {i:Nat} {o:AObj},t3_ l us=true→us[i]? =some (.to o)→j0_ o=true
 |o::l,u::us,0,o',h,h1=>by
  simp only[t3_,Bool.and_eq_true]at h
  cases h1
  exact h.1
 |o::l,u::us,i+1,o',h,h1=>by
  simp only[t3_,Bool.and_eq_true]at h
  exact abj_ h.2 (by simpa using h1)
 |[],[],_,_,_,h1=>by simp at h1
 |_::_,[],_,_,_,h1=>by simp at h1
 |[],_::_,_,_,h,_=>by cases h
theorem aln_{μ ν:Lk}{ρ ρ':Rho}(H:LkR μ ν ρ ρ'){r:AE}{e:Ending}(hs:acK_ r=true)(h:EndR ρ (bkE μ r) e):EndR ρ' (bkE ν r) e:=by
 cases r with
 |returned v=>obtain⟨v',h1,h2⟩:=h;exact⟨v',h1,aoM_ H h2⟩
 |panicked v=>
  obtain⟨v',h1,h2⟩:=h
  have:=VR.ground 3 hs h2
  subst this
  exact⟨v',h1,VR.refl 3 hs⟩
theorem K5_{μ:Lk}: ∀{l:List AObj} {st:ASt} {x:Nat},(z2_ μ l st).h.get x=(if st.next≤x∧x<st.next+l.length then(l[x-st.next]?).map (bkO μ)else st.h.get x)∧(z2_ μ l st).next=st.next+l.length:=by
 intro l
 induction l with
 |nil=>intro st x;rw[if_neg (by simp)];exact⟨rfl,rfl⟩
 |cons o l ih=>
  intro st x
  obtain⟨h1,h2⟩:=ih (st:=st.new (bkO μ o)) (x:=x)
  have hn:(st.new (bkO μ o)).next=st.next+1:=rfl
  refine⟨?_,by simp only[z2_,h2,hn,List.length_cons];omega⟩
  simp only[z2_,h1,hn]
  by_cases hx:x=st.next
  ·subst hx
   rw[if_neg (by omega),if_pos (by simp)]
   simp only[ASt.new,b0_,a1_,Nat.sub_self,List.getElem?_cons_zero,Option.map_some]
  ·by_cases h3:st.next+1≤x∧x<st.next+1+l.length
   ·rw[if_pos h3,if_pos (by simp;omega),show x-st.next=(x-(st.next+1))+1 by omega,List.getElem?_cons_succ]
   ·rw[if_neg h3,if_neg (by simp;omega)]
    simp only[ASt.new,b0_];exact a2_ _ _ hx
theorem afy_{μ:Lk}: ∀{l:List AObj} {st:ASt},LoS st (z2_ μ l st):=by
 intro l
 induction l with
 |nil=>intro st;exact LoS.refl _
 |cons o l ih=>intro st;exact(LoS.new st _).trans ih
theorem aiU_{ρ:Rho}{st:ASt}{w:World}{keep:List Nat}{view:List (Option AObj)}(hw:WR ρ st.h.get w)(hnd:keep.Nodup)(hv:adJ_ (k2_ keep st) view):WR (f5_ keep ρ) (mkS view).h.get w∧
  (∀i o2,(mkS view).h.get i=some o2→ ∃x o,keep[i]? =some x∧st.h.get x=some o∧(o2.isOwn=true→o.isOwn=true))∧Wf (mkS view)∧r6_ (f5_ keep ρ) (mkS view).next:=by
 have hlen:view.length=keep.length:=by rw[hv.1];simp[k2_]
 have hget: ∀i o2,(mkS view).h.get i=some o2→ ∃x o,keep[i]? =some x∧st.h.get x=some o∧(o2.isOwn=true→o.isOwn=true)∧ ∀ρ s w,ObjR ρ (renO keep o) s w→ObjR ρ o2 s w:=by
  intro i o2 e
  rw[b5_]at e
  have e':view[i]? =some (some o2):=by
   cases hq:view[i]? with
   |none=>rw[hq]at e;cases e
   |some u=>rw[hq]at e;cases u with
    |none=>cases e
    |some v=>cases e;rfl
  obtain⟨o1,h1,h2,h3⟩:=hv.2 i o2 e'
  simp only[k2_,List.getElem?_map]at h1
  cases hk:keep[i]? with
  |none=>rw[hk]at h1;cases h1
  |some x=>
   rw[hk]at h1
   simp only[Option.map_some,Option.some.injEq]at h1
   cases ho:st.h.get x with
   |none=>rw[ho]at h1;cases h1
   |some o=>rw[ho]at h1;cases h1;exact⟨x,o,rfl,ho,fun h=>by have:=h2 h;rwa [B2_]at this,h3⟩
 have hρ: ∀i x t,keep[i]? =some x→f5_ keep ρ i=some t→ ∃s,ρ x=some s∧t=i1_ ρ s:=by
  intro i x t hx ht
  obtain⟨a,s,h1,h2,h3⟩:=g8_ ht
  rw[hx]at h1;cases h1
  exact⟨s,h2,h3⟩
 have hown: ∀b,Own (mkS view).h.get (f5_ keep ρ) b→Own st.h.get ρ b:=by
  intro b hb'
  obtain⟨i,o',t,e1,e0,e2,e3,e4⟩:=hb'
  obtain⟨x,o,h1,h2,h3,_⟩:=hget i o' e1
  obtain⟨s,h4,rfl⟩:=hρ i x t h1 e2
  exact⟨x,o,s,h2,h3 e0,h4,e3,e4⟩
 refine⟨⟨fun i s e=> ?_,fun i o' e=> ?_,fun i j oa ob sa sb ea eb eo ra rb va vb heq=> ?_,fun b hb'=> ?_⟩,fun i o2 e=> ?_,fun i o e=> ?_,fun i hi=> ?_⟩
 ·obtain⟨x,s',_,h3,rfl⟩:=g8_ e
  exact hw.blk x s' h3
 ·obtain⟨x,o,h1,h2,_,h5⟩:=hget i o' e
  obtain⟨s,h3,h4⟩:=hw.obj x o h2
  exact⟨i1_ ρ s,r3_ h1 h3,h5 _ _ _ ((ajK_ h4 (fun b hb=>z4_ h1 h3 hb)).spot (y2_ h3))⟩
 ·obtain⟨x,o,h1,h2,k1,_⟩:=hget i oa ea
  obtain⟨y,o2,h3,h4,k2,_⟩:=hget j ob eb
  obtain⟨sa',ra',rfl⟩:=hρ i x sa h1 ra
  obtain⟨sb',rb',rfl⟩:=hρ j y sb h3 rb
  have hxy:=hw.inj x y o o2 sa' sb' h2 h4 (eo.imp k1 k2) ra' rb' va vb heq
  subst hxy
  obtain⟨hi1,hi2⟩:=List.getElem?_eq_some_iff.1 h1
  obtain⟨hj1,hj2⟩:=List.getElem?_eq_some_iff.1 h3
  have hpw:=List.pairwise_iff_getElem.1 hnd
  rcases Nat.lt_trichotomy i j with hlt|hlt|hlt
  ·exact absurd (hi2.trans hj2.symm) (hpw i j hi1 hj1 hlt)
  ·exact hlt
  ·exact absurd (hj2.trans hi2.symm) (hpw j i hj1 hi1 hlt)
 ·have:=hw.fz b (u6_ hb')
  exact⟨this.1,fun h=>this.2 (hown b h)⟩
 ·obtain⟨x,o,h1,h2,h3,_⟩:=hget i o2 e
  exact⟨x,o,h1,h2,h3⟩
 ·obtain⟨x,_,h1,_⟩:=hget i o e
  show i<view.length
  rw[hlen];exact(List.getElem?_eq_some_iff.1 h1).1
 ·have hi:view.length≤i:=hi
  unfold f5_
  rw[List.getElem?_eq_none (by omega)]
def n9_(keep:List Nat)(ρ:Rho):List Spot:=keep.map fun a=>match ρ a with
 |some s=>i1_ ρ s
 |none=>⟨0,0,true,0,0,true,nofz⟩
theorem K2_{ρ:Rho}{μ:Lk}{o:AObj}{s:Spot}{w:World}(h:ObjR ρ (bkO μ o) s w)(hl:j0_ o=true)(ho:o.isOwn=false)(hv:s.void=false):Frz ρ s.blk:=by
 cases o with
 |row k es lo m el=>cases k with
  |mine=>cases ho
  |look=>cases hl
  |still=>exact h.2.2.2.1 rfl hv
 |old cs ex es=>exact h.2.2.2.1
 |_=>cases ho
theorem ack_{W:WayW}(hW:Z2_ W){P:Program}{g:FuncId}{spec:List Value→List (Option AObj)→Option Sp}(hm:P.follows .mixedOrders=true)(h:q2_ W P g spec): ∀args st r st',Wf st→(effC spec).run args st= .ok (r,st')→LoS st st'∧ ∀ρ w (args':Array Value),VRL ρ args args'.toList→WR ρ st.h.get w→b6_ ρ st.next st'.next→
  Calls P g args' w fun e w'=> ∃ρ',EndR ρ' r e∧Mv ρ ρ' st.h.get st'.h.get st.next st'.next w w':=by
 intro args st r st' hwf hr
 simp only[effC]at hr
 generalize hkeep:n7_ args st=keep at hr
 obtain⟨hk,hr⟩:=ck_ hr
 split at hr
 rotate_left
 ·cases hr
 rename_i s hs
 obtain⟨hb,hr⟩:=ck_ hr
 have hr:effA keep s st=(r,st'):=Rs.ok.inj hr
 simp only[Bool.and_eq_true]at hb
 obtain⟨⟨⟨hb,hu⟩,hnl⟩,hsc⟩:=hb
 simp only[K9_,Bool.and_eq_true,List.all_eq_true]at hk
 obtain⟨⟨hnd,hne⟩,hex⟩:=hk
 have hnd:=F7_ hnd
 have hex: ∀a∈keep,∃o,st.h.get a=some o:=fun a ha=>by
  have:=hex a ha
  split at this
  ·rename_i o ho;exact⟨o,ho⟩
  ·cases this
 obtain⟨hview,C,fuel,n,un,lvs,ex,hC,hlaw⟩:=h _ _ s hs hb
 have hvl:s.view.length=keep.length:=by rw[hview.1];simp[k2_]
 have hul:s.ups.length=keep.length:=by rw[R2_ hu,hvl]
 obtain⟨ν,hν⟩: ∃ν,lkOf keep (st.next+1) s.news.length=ν:=⟨_,rfl⟩
 have hr1:r=bkE ν s.ret:=by have h0:=congrArg Prod.fst hr;simp only[effA,hν]at h0;exact h0.symm
 have hr2:st'=z2_ ν s.news (o3_ ν keep s.ups st).skip:=by have h0:=congrArg Prod.snd hr;simp only[effA,hν]at h0;exact h0.symm
 clear hr
 obtain⟨lo1,nx1⟩:=afh_ (μ:=ν) (us:=s.ups) hex hnd
 have hskn:(o3_ ν keep s.ups st).skip.next=st.next+1:=by simp[ASt.skip,nx1]
 have hnx:st'.next=st.next+1+s.news.length:=by rw[hr2,(K5_ (x:=0)).2,hskn]
 have hsg: ∀x,st'.h.get x=(if st.next+1≤x∧x<st.next+1+s.news.length then(s.news[x-(st.next+1)]?).map (bkO ν)else(o3_ ν keep s.ups st).h.get x):=fun x=>by
  rw[hr2,(K5_ (x:=x)).1,hskn];rfl
 refine⟨by rw[hr2];exact lo1.trans ((aey_ _).trans afy_),fun ρ w args' hv hw hfr=> ?_⟩
 rw[hnx]at hfr ⊢
 have hfn:ρ st.next=none:=hfr _ (Nat.le_refl _) (by omega)
 obtain⟨hwC,hgC,hwfC,hfrC⟩:=aiU_ hw hnd hview
 have hlen:(n9_ keep ρ).length=s.view.length:=by simp[n9_,hvl]
 have hXs: ∀(i:Nat) (t:Spot),(n9_ keep ρ)[i]? =some t→ ∃(a:Nat) (s0:Spot),keep[i]? =some a∧ρ a=some s0∧t=i1_ ρ s0:=fun i t ht=>by
  simp only[n9_,List.getElem?_map]at ht
  cases hq:keep[i]? with
  |none=>rw[hq]at ht;cases ht
  |some a=>
   rw[hq]at ht
   obtain⟨o,ho⟩:=hex a (List.mem_of_getElem? hq)
   obtain⟨s0,h1,_⟩:=hw.obj a o ho
   simp only[Option.map_some,h1,Option.some.injEq]at ht
   exact⟨a,s0,rfl,h1,ht.symm⟩
 have hXe: ∀(i a:Nat) (s0:Spot),keep[i]? =some a→ρ a=some s0→(n9_ keep ρ)[i]? =some (i1_ ρ s0):=fun i a s0 h1 h2=>by
  simp only[n9_,List.getElem?_map,h1,Option.map_some,h2]
 have hmem: ∀(i a:Nat),keep[i]? =some a→ ∃o s0,st.h.get a=some o∧ρ a=some s0∧ObjR ρ o s0 w:=fun i a h1=>by
  obtain⟨o,ho⟩:=hex a (List.mem_of_getElem? h1)
  obtain⟨s0,h2,h3⟩:=hw.obj a o ho
  exact⟨o,s0,ho,h2,h3⟩
 --what may be written
 have hWown: ∀b,Own (mkS s.view).h.get (f5_ keep ρ) b→ ∃(i a:Nat) (o:AObj) (s0:Spot),keep[i]? =some a∧st.h.get a=some o∧o.isOwn=true∧ρ a=some s0∧s0.void=false∧s0.blk=b:=by
  intro b ⟨i,o',t,e1,e0,e2,e3,e4⟩
  obtain⟨x,o,h1,h2,h3⟩:=hgC i o' e1
  obtain⟨a,s0,q1,q2,rfl⟩:=g8_ e2
  rw[h1]at q1;cases q1
  exact⟨i,x,o,s0,h1,h2,h3 e0,q2,e3,e4⟩
 have hWo: ∀b,Own (mkS s.view).h.get (f5_ keep ρ) b→Own st.h.get ρ b:=fun b hb=>by
  obtain⟨i,a,o,s0,h1,h2,h3,h4,h5,h6⟩:=hWown b hb
  exact⟨a,o,s0,h2,h3,h4,h5,h6⟩
 have hvC:VRL (f5_ keep ρ) (args.map (ren keep 4)) args'.toList:=aao_ hv
 have hl:=hlaw ⟨w.heap.size,w,n9_ keep ρ,Frz ρ,Own (mkS s.view).h.get (f5_ keep ρ)⟩ hlen
 refine(W4_ (ρ:=f5_ keep ρ) (X:=n9_ keep ρ) (F:=Frz ρ) (W:=Own (mkS s.view).h.get (f5_ keep ρ)) hm hC hlen (fun i t ht=> ?_) hvC hwC hwfC hfrC (fun b hb=> .inr hb) (fun b hb=>u6_ hb) hl).mono fun e w' he=> ?_
 ·obtain⟨a,s0,h1,h2,rfl⟩:=hXs i t ht
  exact⟨_,r3_ h1 h2,SameSpot.refl _⟩
 have he:=hW s.view.length _ _ _ _ hlen he.bel.size he
 obtain⟨⟨r2,st2,ρ2,e1,⟨nm,nm1,nm2,nm3,rfl,hto,hnew⟩,hw2,hwf2,hfr2,how2,hfz2,hext2⟩,hbel⟩:=he
 generalize hμ:lkAt s.view.length nm=μ at e1 hto hnew
 --names behind the call:as they were;one that knows what is written no more;new ones
 obtain⟨ρ',hρ'⟩: ∃ρ':Rho,ρ'=fun a=>if st.next+1≤a∧a<st.next+1+s.news.length then(nm[a-(st.next+1)]?).bind ρ2 else if a=st.next then some ⟨0,0,true,0,0,true,Frz ρ2⟩else ρ a:=⟨_,rfl⟩
 have hρn: ∀(j x:Nat),nm[j]? =some x→ρ' (st.next+1+j)=ρ2 x:=fun j x hj=>by
  have hjl:=(List.getElem?_eq_some_iff.1 hj).1
  rw[hρ'];simp only
  rw[if_pos (by omega),show st.next+1+j-(st.next+1)=j by omega,hj];rfl
 have hρm:ρ' st.next=some ⟨0,0,true,0,0,true,Frz ρ2⟩:=by rw[hρ'];simp only;rw[if_neg (by omega),if_pos trivial]
 have hρo: ∀a,a<st.next→ρ' a=ρ a:=fun a ha=>by rw[hρ'];simp only;rw[if_neg (by omega),if_neg (by omega)]
 have hρs: ∀a t,ρ a=some t→a<st.next∨st.next+1+s.news.length≤a:=fun a t ht=>by
  rcases Nat.lt_or_ge a st.next with h1|h1
  ·exact .inl h1
  ·rcases Nat.lt_or_ge a (st.next+1+s.news.length)with h2|h2
   ·rw[hfr a h1 h2]at ht;cases ht
   ·exact .inr h2
 have hρk: ∀a t,ρ a=some t→ρ' a=some t:=fun a t ht=>by
  rw[hρ'];simp only
  rcases hρs a t ht with h1|h1
  ·rw[if_neg (by omega),if_neg (by omega)];exact ht
  ·rw[if_neg (by omega),if_neg (by omega)];exact ht
 have hsub:Sub ρ ρ':=hρk
 have hz2: ∀b,Frz ρ2 b→Frz ρ' b:=fun b hb=>⟨st.next,_,hρm,hb⟩
 have hzi: ∀b,Frz ρ' b→Frz ρ b∨Frz ρ2 b:=fun b ⟨a,t,h1,h2⟩=>by
  rw[hρ']at h1;simp only at h1
  split at h1
  ·cases hq:nm[a-(st.next+1)]? with
   |none=>rw[hq]at h1;cases h1
   |some x=>rw[hq]at h1;exact .inr ⟨x,t,h1,h2⟩
  ·split at h1
   ·cases h1;exact .inr h2
   ·exact .inl ⟨a,t,h1,h2⟩
 have H2: ∀(i a:Nat) (s2:Spot),keep[i]? =some a→ρ2 i=some s2→ ∃t,ρ' a=some t∧Like s2 t:=fun i a s2 h1 h2=>by
  obtain⟨o,s0,h3,h4,_⟩:=hmem i a h1
  obtain⟨s',q1,q2⟩:=hext2 i _ (hXe i a s0 h1 h4)
  rw[h2]at q1;cases q1
  exact⟨s0,hρk _ _ h4,⟨q2.blk.symm,q2.base.symm,q2.ex.symm,q2.es.symm,q2.room.symm,q2.void.symm⟩⟩
 have hνlt: ∀(i a:Nat),keep[i]? =some a→ν i=some a:=fun i a h1=>by rw[←hν];simp only[lkOf,h1]
 have hνge: ∀(j x:Nat),nm[j]? =some x→ν (s.view.length+j)=some (st.next+1+j):=fun j x h1=>by
  have hjl:=(List.getElem?_eq_some_iff.1 h1).1
  rw[←hν]
  simp only[lkOf]
  rw[List.getElem?_eq_none (by omega)]
  have:Nat.blt (s.view.length+j) (keep.length+s.news.length)=true:=by simp;omega
  simp only[this,cond_true];congr 1;omega
 have hνinv: ∀(i a:Nat),ν i=some a→(keep[i]? =some a∧μ i=some i)∨ ∃j x,i=s.view.length+j∧nm[j]? =some x∧a=st.next+1+j∧μ i=some x:=fun i a h1=>by
  rw[←hν]at h1
  simp only[lkOf]at h1
  split at h1
  ·rename_i a' ha'
   cases h1
   refine .inl ⟨ha',?_⟩
   rw[←hμ]
   have hi:=(List.getElem?_eq_some_iff.1 ha').1
   have:Nat.blt i s.view.length=true:=by simp;omega
   simp only[lkAt,this,cond_true]
  ·rename_i hnone
   have hi:keep.length≤i:=by simpa using hnone
   cases hbt:Nat.blt i (keep.length+s.news.length)with
   |false=>rw[hbt]at h1;cases h1
   |true=>
    rw[hbt]at h1
    have hlt:i<keep.length+s.news.length:=by simpa using hbt
    simp only[cond_true,Option.some.injEq]at h1
    have hjl:i-s.view.length<nm.length:=by omega
    refine .inr ⟨i-s.view.length,nm[i-s.view.length],by omega,List.getElem?_eq_getElem hjl,by omega,?_⟩
    rw[←hμ]
    have:Nat.blt i s.view.length=false:=by
     cases hq:Nat.blt i s.view.length with
     |false=>rfl
     |true=>have:i<s.view.length:=by simpa using hq
            omega
    simp only[lkAt,this,cond_false]
    exact List.getElem?_eq_getElem hjl
 have HL:LkR μ ν ρ2 ρ':=⟨fun i a h1=>by
   rcases hνinv i a h1 with⟨_,h2⟩|⟨j,x,_,_,_,h2⟩
   ·exact⟨i,h2⟩
   ·exact⟨x,h2⟩,fun i x a s2 h1 h2 h3=>by
   rcases hνinv i a h2 with⟨h4,h5⟩|⟨j,x',rfl,h4,rfl,h5⟩
   ·rw[h1]at h5;cases h5;exact H2 _ a s2 h4 h3
   ·rw[h1]at h5;cases h5
    exact⟨s2,by rw[hρn j _ h4];exact h3,⟨rfl,rfl,rfl,rfl,rfl,rfl⟩⟩⟩
 --blocks that are not written
 have hkept: ∀b,b<w.heap.size→ ¬Own (mkS s.view).h.get (f5_ keep ρ) b→w'.heap[b]? =w.heap[b]? :=fun b h1 h2=>hbel.block b h1 h2
 have hfzk: ∀b,Frz ρ b→w'.heap[b]? =w.heap[b]? :=fun b hb=>hkept b (hw.fz b hb).1 fun h1=>(hw.fz b hb).2 (hWo b h1)
 have hget:=fun x=>acO_ (μ:=ν) (us:=s.ups) (st:=st) (x:=x) hnd hul
 --a name there,a name here
 let Nm:Nat→Nat→Prop:=fun x a=>keep[x]? =some a∨ ∃j:Nat,nm[j]? =some x∧a=st.next+1+j
 have Nm_inj: ∀x a b,Nm x a→Nm x b→a=b:=fun x a b h1 h2=>by
  rcases h1 with h1|⟨j,h1,rfl⟩<;>rcases h2 with h2|⟨k,h2,rfl⟩
  ·rw[h1]at h2;cases h2;rfl
  ·have:=nm3 x (List.mem_of_getElem? h2)
   have:=(List.getElem?_eq_some_iff.1 h1).1
   omega
  ·have:=nm3 x (List.mem_of_getElem? h1)
   have:=(List.getElem?_eq_some_iff.1 h2).1
   omega
  ·obtain⟨j1,j2⟩:=List.getElem?_eq_some_iff.1 h1
   obtain⟨k1,k2⟩:=List.getElem?_eq_some_iff.1 h2
   have hpw:=List.pairwise_iff_getElem.1 nm2
   rcases Nat.lt_trichotomy j k with hlt|hlt|hlt
   ·exact absurd (j2.trans k2.symm) (hpw j k j1 k1 hlt)
   ·omega
   ·exact absurd (k2.trans j2.symm) (hpw k j k1 j1 hlt)
 have Nm_at: ∀x a s2,Nm x a→ρ2 x=some s2→ ∃t,ρ' a=some t∧Like s2 t:=fun x a s2 h1 h2=>by
  rcases h1 with h1|⟨j,h1,rfl⟩
  ·exact H2 x a s2 h1 h2
  ·exact⟨s2,by rw[hρn j x h1];exact h2,⟨rfl,rfl,rfl,rfl,rfl,rfl⟩⟩
 --what stands under a name
 have hcase: ∀a o',st'.h.get a=some o'→(st.h.get a=some o'∧(a∉keep∨ ∃i:Nat,keep[i]? =some a∧s.ups[i]? =some .same))∨ ∃(x:Nat) (o2:AObj),Nm x a∧j0_ o2=true∧o'=bkO ν o2∧st2.h.get x=some (bkO μ o2):=fun a o' e=>by
  rw[hsg]at e
  split at e
  ·rename_i hr
   cases hq:s.news[a-(st.next+1)]? with
   |none=>rw[hq]at e;cases e
   |some o2=>
    rw[hq]at e
    cases e
    have hjl:a-(st.next+1)<nm.length:=by omega
    refine .inr ⟨nm[a-(st.next+1)],o2,.inr ⟨a-(st.next+1),List.getElem?_eq_getElem hjl,by omega⟩,?_,rfl,hnew _ _ o2 (List.getElem?_eq_getElem hjl) hq⟩
    rw[List.all_eq_true]at hnl
    exact hnl o2 (List.mem_of_getElem? hq)
  ·rcases hget a with⟨h1,h2⟩|⟨i,u,h1,h2,h3⟩
   ·exact .inl ⟨h2▸e,.inl h1⟩
   ·rw[e]at h3
    cases u with
    |same=>exact .inl ⟨h3.symm,.inr ⟨i,h1,h2⟩⟩
    |gone=>cases h3
    |to o2=>cases h3;exact .inr ⟨i,o2,.inl h1,abj_ hu h2,rfl,hto i o2 h2⟩
 --an object that is as it was does not stand in what was written
 have hnW: ∀(a:Nat) (o:AObj) (s0:Spot),st.h.get a=some o→ρ a=some s0→s0.void=false→(a∉keep∨ ∃i:Nat,keep[i]? =some a∧s.ups[i]? =some .same)→ ¬Own (mkS s.view).h.get (f5_ keep ρ) s0.blk:=by
  intro a o s0 h1 h2 h3 hc ⟨i,o',t,k1,k0,k2,k3,k4⟩
  obtain⟨x,ox,q1,q2,q3⟩:=hgC i o' k1
  obtain⟨x',sx,p1,p2,rfl⟩:=g8_ k2
  rw[q1]at p1;cases p1
  have:=hw.inj a x o ox s0 sx h1 q2 (.inr (q3 k0)) h2 p2 h3 k3 k4.symm
  subst this
  rcases hc with hc|⟨j,j1,j2⟩
  ·exact hc (List.mem_of_getElem? q1)
  ·obtain⟨hi1,hi2⟩:=List.getElem?_eq_some_iff.1 q1
   obtain⟨hj1,hj2⟩:=List.getElem?_eq_some_iff.1 j1
   have hij:i=j:=by
    have hpw:=List.pairwise_iff_getElem.1 hnd
    rcases Nat.lt_trichotomy i j with hlt|hlt|hlt
    ·exact absurd (hi2.trans hj2.symm) (hpw i j hi1 hj1 hlt)
    ·exact hlt
    ·exact absurd (hj2.trans hi2.symm) (hpw j i hj1 hi1 hlt)
   subst hij
   have hvw:s.view[i]? =some (some o'):=by
    rw[b5_]at k1
    cases hq:s.view[i]? with
    |none=>rw[hq]at k1;cases k1
    |some u=>rw[hq]at k1;cases u with
     |none=>cases k1
     |some v=>cases k1;rfl
   have:=J1_ hu j2 hvw
   rw[this]at k0;cases k0
 --as it was,or changed,or new
 have side: ∀(a:Nat) (oa:AObj) (sa:Spot),st'.h.get a=some oa→ρ' a=some sa→
   (st.h.get a=some oa∧ρ a=some sa∧(a∉keep∨ ∃i:Nat,keep[i]? =some a∧s.ups[i]? =some .same))∨ ∃(x:Nat) (o2:AObj) (s2:Spot),Nm x a∧j0_ o2=true∧st2.h.get x=some (bkO μ o2)∧ρ2 x=some s2∧ObjR ρ2 (bkO μ o2) s2 w'∧Like s2 sa∧oa=bkO ν o2:=by
  intro a oa sa ea ra
  rcases hcase a oa ea with⟨h1,hc⟩|⟨x,o2,h1,h2,rfl,h3⟩
  ·obtain⟨s0,q1,_⟩:=hw.obj a oa h1
   have:=hρk a s0 q1
   rw[ra]at this;cases this
   exact .inl ⟨h1,q1,hc⟩
  ·obtain⟨s2,q1,q2⟩:=hw2.obj x _ h3
   obtain⟨t2,q3,q4⟩:=Nm_at x a s2 h1 q1
   rw[ra]at q3;cases q3
   exact .inr ⟨x,o2,s2,h1,h2,h3,q1,q2,q4,rfl⟩
 have hown': ∀b,Own st'.h.get ρ' b→(∃(a:Nat) (o:AObj) (s0:Spot),st.h.get a=some o∧o.isOwn=true∧ρ a=some s0∧s0.void=false∧s0.blk=b∧(a∉keep∨ ∃i:Nat,keep[i]? =some a∧s.ups[i]? =some .same))∨Own st2.h.get ρ2 b:=by
  intro b ⟨a,o',t,k1,k0,k2,k3,k4⟩
  rcases side a o' t k1 k2 with⟨h1,h2,hc⟩|⟨x,o2,s2,h1,_,h3,h4,_,h6,rfl⟩
  ·exact .inl ⟨a,o',t,h1,k0,h2,k3,k4,hc⟩
  ·rw[k7_]at k0
   exact .inr ⟨x,_,s2,h3,by rw[k7_];exact k0,h4,by rw[←h6.void];exact k3,by rw[←h6.blk];exact k4⟩
 have hownO: ∀b,Own st'.h.get ρ' b→w.heap.size≤b∨Own st.h.get ρ b:=fun b hb=>by
  rcases hown' b hb with⟨a,o,s0,h1,h2,h3,h4,h5,_⟩|h1
  ·exact .inr ⟨a,o,s0,h1,h2,h3,h4,h5⟩
  ·rcases how2 b h1 with h2|h2
   ·exact .inl h2
   ·exact .inr (hWo b h2)
 --what is written no more is no one's that was as it was
 have hfzO: ∀b,Frz ρ2 b→ ∀(a:Nat) (o:AObj) (s0:Spot),st.h.get a=some o→o.isOwn=true→ρ a=some s0→s0.void=false→s0.blk=b→(a∉keep∨ ∃i:Nat,keep[i]? =some a∧s.ups[i]? =some .same)→False:=by
  intro b hb a o s0 h1 h2 h3 h4 h5 hc
  rcases hfz2 b hb with h6|h6|h6
  ·have:=hw.blk a s0 h3 h4
   have h6:w.heap.size≤b:=h6
   omega
  ·exact(hw.fz b h6).2 ⟨a,o,s0,h1,h2,h3,h4,h5⟩
  ·exact hnW a o s0 h1 h3 h4 hc (by rw[h5];exact h6)
 --one as it was,one changed or new
 have mixed: ∀(a:Nat) (oa:AObj) (sa:Spot) (x:Nat) (o2:AObj) (s2 sb:Spot),st.h.get a=some oa→ρ a=some sa→(a∉keep∨ ∃i:Nat,keep[i]? =some a∧s.ups[i]? =some .same)→sa.void=false→j0_ o2=true→st2.h.get x=some (bkO μ o2)→ρ2 x=some s2→ObjR ρ2 (bkO μ o2) s2 w'→Like s2 sb→sb.void=false→(oa.isOwn=true∨o2.isOwn=true)→sa.blk=sb.blk→False:=by
  intro a oa sa x o2 s2 sb a1 a2 a3 a4 b0 b1 b2 b3 b4 b5 ho heq
  have hv2:s2.void=false:=by rw[←b4.void];exact b5
  have hbb:s2.blk=sa.blk:=by rw[heq,b4.blk]
  cases hoo:o2.isOwn with
  |true=>
   rcases how2 sa.blk ⟨x,_,s2,b1,by rw[k7_];exact hoo,b2,hv2,hbb⟩with h1|h1
   ·have h1:w.heap.size≤sa.blk:=h1
    have:=hw.blk a sa a2 a4;omega
   ·exact hnW a oa sa a1 a2 a4 a3 h1
  |false=>
   rw[hoo]at ho
   have ho:oa.isOwn=true:=by rcases ho with ho|ho;exact ho;cases ho
   exact hfzO sa.blk (by rw[←hbb];exact K2_ b3 b0 hoo hv2) a oa sa a1 ho a2 a4 rfl a3
 refine⟨ρ',by rw[hr1];exact aln_ HL hsc e1,?_⟩
 refine⟨by omega,hsub,fun a t e=> ?_,hbel.size,fun b h1 h2=>hkept b h1 fun h3=>h2 (hWo b h3),hownO,hbel.os,hbel.tape,hbel.output,⟨fun a t e hvd=> ?_,fun a o' e=> ?_,fun a b oa ob sa sb ea eb eo ra rb va vb heq=> ?_,fun b hb=> ?_⟩,fun a o e=> ?_,fun a o e ho=> ?_,fun b hb=> ?_⟩
 ·rcases Nat.lt_or_ge a st.next with h1|h1
  ·rw[hρo a h1]at e;exact .inl e
  ·rcases Nat.lt_or_ge a (st.next+1+s.news.length)with h2|h2
   ·exact .inr ⟨h1,h2⟩
   ·left
    rw[hρ']at e;simp only at e
    rw[if_neg (by omega),if_neg (by omega)]at e;exact e
 ·rw[hρ']at e;simp only at e
  split at e
  ·cases hq:nm[a-(st.next+1)]? with
   |none=>rw[hq]at e;cases e
   |some x=>rw[hq]at e;exact hw2.blk x t e hvd
  ·split at e
   ·cases e;cases hvd
   ·exact Nat.lt_of_lt_of_le (hw.blk a t e hvd) hbel.size
 ·rcases hcase a o' e with⟨h1,hc⟩|⟨x,o2,h1,h2,rfl,h3⟩
  ·obtain⟨s0,h2,h3⟩:=hw.obj a o' h1
   exact⟨s0,hρk _ _ h2,h3.kept hsub (fun hvd=>hkept _ (hw.blk a s0 h2 hvd) (hnW a o' s0 h1 h2 hvd hc)) hfzk⟩
  ·obtain⟨s2,q1,q2⟩:=hw2.obj x _ h3
   obtain⟨t2,q3,q4⟩:=Nm_at x a s2 h1 q1
   exact⟨t2,q3,(aqk_ HL hz2 q2).like q4⟩
 ·rcases side a oa sa ea ra with⟨a1,a2,a3⟩|⟨x,o2,s2,a1,a2,a3,a4,a5,a6,rfl⟩
  ·rcases side b ob sb eb rb with⟨b1,b2,b3⟩|⟨y,p2,t2,b1,b2,b3,b4,b5,b6,rfl⟩
   ·exact hw.inj a b oa ob sa sb a1 b1 eo a2 b2 va vb heq
   ·exact(mixed a oa sa y p2 t2 sb a1 a2 a3 va b2 b3 b4 b5 b6 vb (by rw[k7_]at eo;exact eo) heq).elim
  ·rcases side b ob sb eb rb with⟨b1,b2,b3⟩|⟨y,p2,t2,b1,b2,b3,b4,b5,b6,rfl⟩
   ·exact(mixed b ob sb x o2 s2 sa b1 b2 b3 vb a2 a3 a4 a5 a6 va (by rw[k7_]at eo;exact eo.symm) heq.symm).elim
   ·have hij:=hw2.inj x y _ _ s2 t2 a3 b3 (by rw[k7_,k7_];rw[k7_,k7_]at eo;exact eo) a4 b4 (by rw[←a6.void];exact va) (by rw[←b6.void];exact vb) (by rw[←a6.blk,←b6.blk];exact heq)
    subst hij
    exact Nm_inj x a b a1 b1
 ·rcases hzi b hb with h1|h1
  ·refine⟨Nat.lt_of_lt_of_le (hw.fz b h1).1 hbel.size,fun h2=> ?_⟩
   rcases hownO b h2 with h3|h3
   ·have:=(hw.fz b h1).1;omega
   ·exact(hw.fz b h1).2 h3
  ·refine⟨(hw2.fz b h1).1,fun h2=> ?_⟩
   rcases hown' b h2 with⟨a,o,s0,k1,k2,k3,k4,k5,k6⟩|h3
   ·exact hfzO b h1 a o s0 k1 k2 k3 k4 k5 k6
   ·exact(hw2.fz b h1).2 h3
 ·rcases hcase a o e with⟨h1,_⟩|⟨x,o2,h1,_⟩
  ·exact .inl ⟨o,h1⟩
  ·rcases h1 with h1|⟨j,h1,rfl⟩
   ·obtain⟨o0,_,h2,_⟩:=hmem x a h1;exact .inl ⟨o0,h2⟩
   ·have:=(List.getElem?_eq_some_iff.1 h1).1
    exact .inr (by omega)
 ·rcases hcase a o e with⟨h1,_⟩|⟨x,o2,h1,h2,rfl,h3⟩
  ·exact .inl h1
  ·refine .inr fun t ht hvd=> ?_
   obtain⟨s2,q1,q2⟩:=hw2.obj x _ h3
   obtain⟨t2,q3,q4⟩:=Nm_at x a s2 h1 q1
   rw[ht]at q3;cases q3
   rw[k7_]at ho
   rw[q4.blk]
   exact hz2 _ (K2_ q2 h2 ho (by rw[←q4.void];exact hvd))
 ·rcases hzi b hb with h1|h1
  ·exact .inl h1
  ·rcases hfz2 b h1 with h2|h2|h2
   ·exact .inr (.inl h2)
   ·exact .inl h2
   ·exact .inr (.inr (hWo b h2))
def Told.eff(C:Told)(g:FuncId)(spec:List Value→List (Option AObj)→Option Sp):Told:=fun f=>cond (Nat.beq f g) (some (effC spec)) (C f)
inductive SpT where
 |one (s:Sp)
 |br (b:Bool) (l r:SpT)
def SpT.pick:SpT→Sp
 | .one s=>s
 | .br b l r=>cond b l.pick r.pick
def symT(keep:List Nat)(st:ASt)(K:AE→ASt→Prop):SpT→Prop
 | .one s=>need s.b (cond (t3_ s.view s.ups&&s.news.all j0_&&acK_ s.ret) (K (effA keep s st).1 (effA keep s st).2) False)
 | .br b l r=>br b (symT keep st K l) (symT keep st K r)
theorem D6_{keep:List Nat}{st:ASt}{K:AE→ASt→Prop}: ∀{t:SpT},symT keep st K t→need t.pick.b (cond (t3_ t.pick.view t.pick.ups&&t.pick.news.all j0_&&acK_ t.pick.ret) (K (effA keep t.pick st).1 (effA keep t.pick st).2) False)
 | .one s,h=>h
 | .br b l r,h=>by
  rcases br_elim h with⟨rfl,h⟩|⟨rfl,h⟩
  ·exact D6_ (t:=l) h
  ·exact D6_ (t:=r) h
def pickS(spec:List Value→List (Option AObj)→Option SpT)(args:List Value)(objs:List (Option AObj)):Option Sp:=(spec args objs).map SpT.pick
def effB(spec:List Value→List (Option AObj)→Option SpT):TCon where
 run args st:=(effC (pickS spec)).run args st
 sym args st K:=cond (K9_ (n7_ args st) st) (P5_ (args.map (ren (n7_ args st) 4)) fun av=>forceO (k2_ (n7_ args st) st) fun ov=>match spec av ov with
  |some t=>symT (n7_ args st) st K t
  |none=>False) False
 ok args st K h:=by
  refine(effC (pickS spec)).ok args st K ?_
  show cond _ _ _
  cases h1:K9_ (n7_ args st) st with
  |false=>rw[h1]at h;exact h.elim
  |true=>
   rw[h1]at h
   simp only[cond_true]at h ⊢
   have h:=W8_ (L2_ h)
   split at h
   ·rename_i t ht
    have:pickS spec (args.map (ren (n7_ args st) 4)) (k2_ (n7_ args st) st)=some t.pick:=by simp only[pickS,ht,Option.map_some]
    rw[this]
    exact D6_ h
   ·exact h.elim
def Told.effT(C:Told)(g:FuncId)(spec:List Value→List (Option AObj)→Option SpT):Told:=fun f=>cond (Nat.beq f g) (some (effB spec)) (C f)
theorem Told.effT_ok{P:Program}{C:Told}{g:FuncId}{spec:List Value→List (Option AObj)→Option SpT}(hm:P.follows .mixedOrders=true)(hC:a8_ P C)(h:Z4_ P g (pickS spec)):a8_ P (C.effT g spec):=by
 intro f d hd args st r st' hwf hr
 unfold Told.effT at hd
 cases hb:Nat.beq f g with
 |false=>rw[hb]at hd;exact hC f d hd args st r st' hwf hr
 |true=>
  rw[hb]at hd
  have:=Nat.eq_of_beq_eq_true hb
  subst this
  simp only[cond_true,Option.some.injEq]at hd
  subst hd
  exact ack_ aod_ hm h.g args st r st' hwf hr
theorem Told.effT_okG{W:WayW}(hW:Z2_ W){P:Program}{C:Told}{g:FuncId}{spec:List Value→List (Option AObj)→Option SpT}(hm:P.follows .mixedOrders=true)(hC:a8_ P C)(h:q2_ W P g (pickS spec)):a8_ P (C.effT g spec):=by
 intro f d hd args st r st' hwf hr
 unfold Told.effT at hd
 cases hb:Nat.beq f g with
 |false=>rw[hb]at hd;exact hC f d hd args st r st' hwf hr
 |true=>
  rw[hb]at hd
  have:=Nat.eq_of_beq_eq_true hb
  subst this
  simp only[cond_true,Option.some.injEq]at hd
  subst hd
  exact ack_ hW hm h args st r st' hwf hr
end Go.Proofs.YtachglcffimmeaaGreat.Ev
