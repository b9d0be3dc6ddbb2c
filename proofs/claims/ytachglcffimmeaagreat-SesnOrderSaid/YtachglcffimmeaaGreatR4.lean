/-
  What the evaluator says of single operations holds of their runs: values that are built, slices.
-/
import Derived.Test.YtachglcffimmeaaGreatR3
import Derived.Laws.BytesString
set_option linter.unusedVariables false
set_option linter.unusedSimpArgs false
namespace Go.Proofs.YtachglcffimmeaaGreat.Ev
open Go
theorem aiO_(off:Nat): ∀(l:List Value) (j0:Nat) (C:Array Value),off+j0+l.length≤C.size→
  ((l.zipIdx j0).foldl (fun cs (p:Value×Nat)=>cs.setIfInBounds (off+p.2) p.1) C).size=C.size∧
  ∀k,((l.zipIdx j0).foldl (fun cs (p:Value×Nat)=>cs.setIfInBounds (off+p.2) p.1) C)[k]? =if off+j0≤k∧k<off+j0+l.length then l[k-(off+j0)]? else C[k]? :=by
 intro l
 induction l with
 |nil=>intro j0 C h;exact⟨rfl,fun k=>by rw[if_neg (by simp)];rfl⟩
 |cons v l ih=>
  intro j0 C h
  simp only[List.length_cons]at h
  obtain⟨h1,h2⟩:=ih (j0+1) (C.setIfInBounds (off+j0) v) (by simp;omega)
  simp only[List.zipIdx_cons,List.foldl_cons]
  refine⟨by rw[h1];simp,fun k=> ?_⟩
  rw[h2]
  by_cases hk:k=off+j0
  ·subst hk
   rw[if_neg (by omega),if_pos (by simp)]
   have:off+j0<C.size:=by omega
   simp[this]
  ·by_cases hk2:off+(j0+1)≤k∧k<off+(j0+1)+l.length
   ·rw[if_pos hk2,if_pos (by simp;omega),show k-(off+j0)=(k-(off+(j0+1)))+1 by omega]
    simp
   ·rw[if_neg hk2,if_neg (by simp;omega),Array.getElem?_setIfInBounds_ne (by omega)]
theorem amf_{ρ:Rho}{off:Nat}{vs vs' cells cells':List Value}{C C':Array Value}(h:layL off vs cells=some cells')(hv:VRL ρ vs vs')(hc:VRL ρ cells C.toList)(hs:C'.size=C.size)
  (hk: ∀k,C'[k]? =if off≤k∧k<off+vs'.length then vs'[k-off]? else C[k]?):VRL ρ cells' C'.toList:=by
 obtain⟨l1,l2,l3⟩:=G2_ h
 have e:=hv.1
 refine⟨by rw[l1];have:=hc.1;simp at this ⊢;omega,fun i x y hx hy=> ?_⟩
 rw[Array.getElem?_toList,hk]at hy
 rw[l3]at hx
 by_cases hi:off≤i∧i<off+vs.length
 ·rw[if_pos hi]at hx;rw[if_pos (by omega)]at hy
  exact hv.2 _ x y hx hy
 ·rw[if_neg hi]at hx;rw[if_neg (by omega)]at hy
  exact hc.2 i x y hx (by simpa using hy)
def and_(ρ:Rho):List (Nat×Value)→List (Nat×Value)→Prop
 |[],[]=>True
 |p::l,q::m=>p.1=q.1∧VR ρ p.2 q.2∧and_ ρ l m
 |_,_=>False
theorem P8_{ρ:Rho}{place:Nat→Option (Nat×Nat)}: ∀{parts parts':List (Nat×Value)} {cells cs:List Value} {C:Array Value},I7_ place cells parts= .ok cs→VRL ρ cells C.toList→and_ ρ parts parts'→
  ∃C',Instr.fill place C parts'=some C'∧VRL ρ cs C'.toList:=by
 intro parts
 induction parts with
 |nil=>
  intro parts' cells cs C h hc hp
  cases parts' with
  |nil=>simp only[I7_,Rs.ok.injEq]at h;subst h;exact⟨C,rfl,hc⟩
  |cons q m=>exact hp.elim
 |cons p l ih=>
  intro parts' cells cs C h hc hp
  cases parts' with
  |nil=>exact hp.elim
  |cons q m=>
   obtain⟨i,v⟩:=p
   obtain⟨i',v'⟩:=q
   obtain⟨e1,e2,e3⟩:=hp
   simp only at e1 e2
   subst e1
   simp only[I7_]at h
   split at h
   ·rename_i off size hpl
    obtain⟨h1,h2⟩:=ck_ h
    simp only[Bool.and_eq_true]at h1
    have hsz:(e7_ v).length=size:=Nat.eq_of_beq_eq_true h1.1.1
    obtain⟨cs1,h3,h4⟩:=bk_ h2
    have h5:=O9_ h3
    obtain⟨r1,r2⟩:=x8_ e2 h1.1.2
    obtain⟨l1,l2,l3⟩:=G2_ h5
    have e5:=r1.1
    have e6:=hc.1
    simp only[Array.length_toList]at e5 e6
    have hb:off+size≤cells.length:=Nat.le_of_ble_eq_true h1.2
    obtain⟨f1,f2⟩:=aiO_ off v'.cells.toList 0 C (by simp;omega)
    have hC:v'.cells.zipIdx.foldl (fun cs (x:Value×Nat)=>cs.setIfInBounds (off+x.2) x.1) C=(v'.cells.toList.zipIdx 0).foldl (fun cs (p:Value×Nat)=>cs.setIfInBounds (off+p.2) p.1) C:=by
     rw[←Array.foldl_toList,Array.toList_zipIdx]
    have hr:=amf_ (C':=(v'.cells.toList.zipIdx 0).foldl (fun cs (p:Value×Nat)=>cs.setIfInBounds (off+p.2) p.1) C) h5 r1 hc f1 (fun k=>by rw[f2];simp)
    obtain⟨C',k1,k2⟩:=ih h4 hr e3
    refine⟨C',?_,k2⟩
    simp only[Instr.fill,hpl]
    rw[if_neg (by simp;omega)]
    rw[←k1,←hC]
   ·cases h
theorem F1_{ρ:Rho}{f:AFr}{a:Act}(hf:FrR ρ f a)(ps:Array (Nat×Operand)):and_ ρ (y9_ f ps) (ps.map fun(i,x)=>(i,a.eval x)).toList:=by
 unfold y9_
 rw[Array.toList_map]
 induction ps.toList with
 |nil=>trivial
 |cons p l ih=>exact⟨rfl,hf.ev p.2,ih⟩
theorem acQ_{P:Program}: ∀{fs:List Field} {pl:List (Nat×Nat)},w8_ P fs= .ok pl→ ∀w,(fs.mapM fun f=>(do pure (f.offset,←sizeOf f.type):Sem (Nat×Nat))).run P w= .ok pl w:=by
 intro fs
 induction fs with
 |nil=>intro pl h w;simp only[w8_,Rs.ok.injEq]at h;subst h;rfl
 |cons f l ih=>
  intro pl h w
  simp only[w8_]at h
  obtain⟨n,h1,h2⟩:=bk_ h
  obtain⟨r,h3,h4⟩:=bk_ h2
  cases h4
  have h5:=ih h3 w
  simp only[List.mapM_cons,Sem.run_bind,a3_ h1,Result.andThen_ok,Sem.run_pure,h5]
theorem F3_{P:Program}{o:Oper}{f:AFr}{st:ASt}{t:TypeId}{ps:Array (Nat×Operand)}{z cs:List Value}{fs:Array Field}{pl:List (Nat×Nat)}(h:o.op= .build t ps)(hz:i6_ P t= .ok z)(hd:undL P t= .ok (.struct fs))
  (hp:w8_ P fs.toList= .ok pl) (hfi:I7_ (fun i=>pl[i]?) z (y9_ f ps)= .ok cs):OpR P o f st (.val (.agg cs.toArray) st):=
 OpR.quiet fun ρ w a hf hw=>by
  obtain⟨zv,h1,h2,h3⟩:=h4_ hz
  obtain⟨C',k1,k2⟩:=P8_ (C:=zv.cells) hfi (by rw[h1];exact e4_ h2) (F1_ hf ps)
  refine⟨.agg C',?_,?_⟩
  ·have hpl:=acQ_ hp w
   obtain⟨fl⟩:=fs
   have e:(fun(x:Nat)=>pl.toArray[x]?)=(fun(i:Nat)=>pl[i]?):=by funext i;simp
   simp only[execOp,h,Instr.build,Sem.run_bind,h3,Result.andThen_ok,ru_ hd]
   simp only[List.mapM_toArray,Sem.run_map,hpl,Result.andThen_ok]
   rw[e,k1]
   rfl
  ·have:=VR.agg' k2;simpa using this
theorem I2_{P:Program}{o:Oper}{f:AFr}{st:ASt}{t e:TypeId}{ps:Array (Nat×Operand)}{z cs:List Value}{m n:Nat}(h:o.op= .build t ps)(hz:i6_ P t= .ok z)(hd:undL P t= .ok (.array m e))
  (hn:b3_ P e= .ok n) (hfi:I7_ (fun i=>some (i*n,n)) z (y9_ f ps)= .ok cs):OpR P o f st (.val (.agg cs.toArray) st):=
 OpR.quiet fun ρ w a hf hw=>by
  obtain⟨zv,h1,h2,h3⟩:=h4_ hz
  obtain⟨C',k1,k2⟩:=P8_ (C:=zv.cells) hfi (by rw[h1];exact e4_ h2) (F1_ hf ps)
  refine⟨.agg C',?_,?_⟩
  ·simp only[execOp,h,Instr.build,Sem.run_bind,h3,Result.andThen_ok,ru_ hd,a3_ hn]
   rw[k1]
   rfl
  ·have:=VR.agg' k2;simpa using this
theorem abB_(z:List Value): ∀(n i:Nat),(repL z n)[i]? =if i<n*z.length then z[i%z.length]? else none:=by
 intro n
 induction n with
 |zero=>intro i;simp[repL]
 |succ n ih=>
  intro i
  simp only[repL]
  rw[Nat.succ_mul]
  rcases Nat.lt_or_ge i z.length with h|h
  ·rw[List.getElem?_append_left h,if_pos (by omega),Nat.mod_eq_of_lt h]
  ·rw[List.getElem?_append_right h,ih]
   by_cases h2:i-z.length<n*z.length
   ·rw[if_pos h2,if_pos (by omega)]
    congr 1
    rw[Nat.mod_eq_sub_mod h]
   ·rw[if_neg h2,if_neg (by omega)]
theorem N6_(z:List Value)(n:Nat):(repL z n).length=n*z.length:=by
 induction n with
 |zero=>simp[repL]
 |succ n ih=>simp only[repL,List.length_append,ih,Nat.succ_mul];omega
theorem N7_{p:Value→Bool}{z:List Value}(h:z.all p=true): ∀n,(repL z n).all p=true:=by
 intro n
 induction n with
 |zero=>rfl
 |succ n ih=>simp only[repL,List.all_append,h,ih,Bool.and_self]
theorem aan_{ρ:Rho}{z:List Value}{zc:Array Value}{n N:Nat}(hz:VRL ρ z z)(he:N≠0→zc.toList=z)(hN:N=n*z.length):VRL ρ (repL z n) ((Array.range N).map fun i=>zc[i%zc.size]!).toList:=by
 refine⟨by rw[N6_];simp[hN],fun i x y hx hy=> ?_⟩
 rw[abB_]at hx
 split at hx
 ·rename_i hi
  have hN0:N≠0:=by omega
  have e:=he hN0
  have hsz:zc.size=z.length:=by rw[←e];simp
  have hzl:0<z.length:=by
   rcases Nat.eq_zero_or_pos z.length with h0|h0
   ·rw[h0]at hi;simp at hi
   ·exact h0
  have hlt:i%z.length<z.length:=Nat.mod_lt _ hzl
  simp only[Array.toList_map,Array.toList_range,List.getElem?_map]at hy
  rw[List.getElem?_range (by omega)]at hy
  simp only[Option.map_some,Option.some.injEq,hsz]at hy
  have h3:zc[i%z.length]! =x:=by
   have h4:zc[i%z.length]? =some x:=by rw[←Array.getElem?_toList,e];exact hx
   simp[getElem!_def,h4]
  rw[h3]at hy
  subst hy
  exact hz.2 _ x x hx hx
 ·cases hx
theorem l2_{ρ:Rho}{n k c c':Nat}{s:Spot}(h0:s.base=0)(hk:k≤c)(hc:c≤c')(hx:s.ex=true→c'=c)(hr:s.ex=false→c'*s.es≤s.room):VR (upd ρ n (some s)) (.slice (some ⟨n,0,none⟩) k c) (.slice (some ⟨s.blk,0,none⟩) k c'):=
 .slice n 0 s k c c' 0 (a1_ _ _ _) hk hc hx (fun h=>by rw[Nat.zero_add];exact hr h) (.inl (by omega))
theorem O6_{P:Program}{o:Oper}{f:AFr}{st:ASt}{t e:TypeId}{len n:Nat}{ps:Array (Nat×Operand)}{z cs:List Value}(h:o.op= .buildSlice t len ps)(hd:undL P t= .ok (.slice e))(hn:b3_ P e= .ok n)(hz:i6_ P e= .ok z)
  (h1:z.length=n) (h2:len*n≤16777216) (hfi:I7_ (fun i=>some (i*n,n)) (repL z len) (y9_ f ps)= .ok cs):
  OpR P o f st (.val (.slice (some ⟨st.next,0,none⟩) len len) (st.new (.cells cs true n))):=by
 refine⟨LoS.new _ _,fun ρ w a hf hw hfr=> ?_⟩
 obtain⟨zv,e1,e2,e3⟩:=h4_ hz
 have hz0:(Sem.run P (if len*n=0 then(pure #[]:Sem (Array Value))else(do pure (←zeroValue e).cells)) w)= .ok (if len*n=0 then #[]else zv.cells) w:=by
  split<;>simp[e3]
 obtain⟨C',k1,k2⟩:=P8_ (C:=(Array.range (len*n)).map fun i=>(if len*n=0 then #[]else zv.cells)[i%(if len*n=0 then #[]else zv.cells).size]!) hfi
  (aan_ (e4_ e2) (fun h0=>by rw[if_neg h0];exact e1) (by rw[h1])) (F1_ hf ps)
 refine⟨_,.slice (some ⟨w.heap.size,0,none⟩) len len,w.alloc (.cells C' e),.inl ?_,l2_ rfl (Nat.le_refl _) (Nat.le_refl _) (fun _=>rfl) (fun h=>by cases h),Mv.row (C:=C') true n (0,0) hw hfr (VRL.whole k2) (.inl rfl) rfl rfl rfl rfl⟩
 simp only[execOp,h,Instr.buildSlice,Sem.run_bind,ru_ hd,Result.andThen_ok,a3_ hn]
 rw[if_neg (by omega)]
 by_cases h0:len*n=0
 ·have k3:Instr.fill (fun i=>some (i*n,n)) (Array.map (fun i=>(#[]:Array Value)[i%(#[]:Array Value).size]!) (Array.range 0)) (Array.map (fun x=>(x.fst,a.eval x.snd)) ps).toList=some C':=by
   simp only[h0,↓reduceIte]at k1;exact k1
  simp only[h0,↓reduceIte,Sem.run_bind,Sem.run_pure,Result.andThen_ok]
  rw[k3]
  simp[newRow]
 ·have k3:Instr.fill (fun i=>some (i*n,n)) (Array.map (fun i=>zv.cells[i%zv.cells.size]!) (Array.range (len*n))) (Array.map (fun x=>(x.fst,a.eval x.snd)) ps).toList=some C':=by
   simp only[h0,↓reduceIte]at k1;exact k1
  simp only[h0,↓reduceIte,Sem.run_bind,e3,Sem.run_pure,Result.andThen_ok]
  rw[k3]
  simp[newRow]
theorem Y4_{P:Program}{t:TypeId}{n:Nat}(h:m1_ P t= .ok n)(w:World): ∃i,(typeInfo t).run P w= .ok i w∧i.bytes=n:=by
 unfold m1_ at h
 split at h
 ·rename_i i e;cases h;exact⟨i,by simp[typeInfo,e],rfl⟩
 ·cases h
theorem q3_(n:Nat)(h:n≤1000000):IntKind.i64.wrap (Int.ofNat n)=n:=by
 have e:IntKind.i64.bits=64:=rfl
 rw[show(Int.ofNat n)=((n:Nat):Int)from rfl]
 unfold IntKind.wrap
 simp only[e,IntKind.signed]
 have h1:((n:Nat):Int)%(2^64:Int)=n:=Int.emod_eq_of_lt (by omega) (by omega)
 simp only[h1]
 rw[if_neg (by simp;omega)]
theorem V2_{P:Program}{o:Oper}{f:AFr}{st:ASt}{t e:TypeId}{x y:Operand}{k1 k2:IntKind}{l c n b:Nat}{z:List Value}(h:o.op= .makeSlice t x y)(hx:f.ev x= .int k1 (.ofNat l))(hy:f.ev y= .int k2 (.ofNat c))(hd:undL P t= .ok (.slice e))
  (hz:i6_ P e= .ok z) (hn:b3_ P e= .ok n) (hb:m1_ P e= .ok b) (h1:l≤c) (h2:c≤1000000) (h3:b≤1000000) (h4:z.length=n):
  OpR P o f st (.val (.slice (some ⟨st.next,0,none⟩) l c) (st.new (.cells (repL z c) true n))):=by
 refine⟨LoS.new _ _,fun ρ w a hf hw hfr=> ?_⟩
 obtain⟨zv,e1,e2,e3⟩:=h4_ hz
 have ex:=hf.ev x
 have ey:=hf.ev y
 rw[hx]at ex;rw[hy]at ey
 generalize hX:a.eval x=X at ex
 generalize hY:a.eval y=Y at ey
 cases ex;cases ey
 have hz0: ∀w,(Sem.run P (if c*n=0 then(pure #[]:Sem (Array Value))else(do pure (←zeroValue e).cells)) w)= .ok (if c*n=0 then #[]else zv.cells) w:=by
  intro w;split<;>simp[e3]
 obtain⟨ii,i1,i2⟩:=Y4_ hb w
 refine⟨_,.slice (some ⟨w.heap.size,0,none⟩) l c,w.alloc (.cells ((Array.range (c*n)).map fun i=>(if c*n=0 then #[]else zv.cells)[i%(if c*n=0 then #[]else zv.cells).size]!) e),.inl ?_,l2_ rfl h1 (Nat.le_refl _) (fun _=>rfl) (fun h=>by cases h),
  Mv.row (C:=(Array.range (c*n)).map fun i=>(if c*n=0 then #[]else zv.cells)[i%(if c*n=0 then #[]else zv.cells).size]!) true n (0,0) hw hfr (VRL.whole (aan_ (e4_ e2) (fun h0=>by rw[if_neg h0];exact e1) (by rw[h4]))) (.inl rfl) rfl rfl rfl rfl⟩
 have hbn:b*c≤1000000*1000000:=Nat.mul_le_mul h3 h2
 have w1:=q3_ l (by omega)
 have w2:=q3_ c h2
 simp only[execOp,h,hX,hY,Instr.makeSlice,Sem.run_bind,ru_ hd,Result.andThen_ok,asInt,asIntOf,Sem.run_pure,i1,i2,w1,w2]
 have c1: ¬((c:Int)<0):=by omega
 have c2: ¬((b:Int)*(c:Int)>2^48):=by
  have:((b:Int)*(c:Int))=((b*c:Nat):Int):=by simp
  rw[this];omega
 have c3: ¬((l:Int)<0):=by omega
 have c4: ¬((l:Int)>c):=by omega
 simp only[c1,c2,c3,c4,decide_false,Bool.or_self,Bool.false_eq_true,if_false,run_askRoom,Result.andThen_ok,Int.toNat_natCast,Sem.run_bind,a3_ hn]
 by_cases h0:c*n=0
 ·simp only[h0,↓reduceIte,Sem.run_bind,Sem.run_pure,Result.andThen_ok]
  simp[newRow]
 ·simp only[h0,↓reduceIte,Sem.run_bind,e3,Sem.run_pure,Result.andThen_ok]
  simp[newRow]
theorem K1_{P:Program}{o:Oper}{f:AFr}{st:ASt}{t:TypeId}{r:Option Operand}(h:o.op= .makeMap t r)(hr: ∀x,r=some x→(∃k n,f.ev x= .int k n)∧ ∃k e,undL P t= .ok (.map k e)):OpR P o f st (.val (.map (some st.next)) (st.new (.map [] 0))):=by
 refine⟨LoS.new _ _,fun ρ w a hf hw hfr=> ?_⟩
 have hn:ρ st.next=none:=hfr _ (Nat.le_refl _) (Nat.lt_succ_self _)
 refine⟨upd ρ st.next (some ⟨w.heap.size,0,false,0,0,false,nofz⟩),.map (some w.heap.size),w.alloc (.map #[] 0),.inl ?_,.map st.next ⟨w.heap.size,0,false,0,0,false,nofz⟩ (a1_ _ _ _),?_⟩
 ·cases r with
  |none=>simp[execOp,h,Instr.makeMap]
  |some x=>
   obtain⟨⟨k,n,e1⟩,k2,e2,e3⟩:=hr x rfl
   have ex:=hf.ev x
   rw[e1]at ex
   generalize hX:a.eval x=X at ex
   cases ex
   simp[execOp,h,Instr.makeMap,hX,ru_ e3,asInt,asIntOf]
 ·have:(st.new (.map [] 0)).h.get=upd st.h.get st.next (some (.map [] 0)):=by simp[ASt.new,b0_]
  rw[this]
  exact Mv.alloc hw hn _ rfl _ (fun _ h=>h) rfl (by simp) (fun b hb=>RowKit.Below.heap_alloc _ _ _ hb) ⟨rfl, #[],by show(w.heap.push _)[w.heap.size]? =_;simp,rfl,fun i e he=>by simp at he⟩ rfl rfl rfl
def OptR(ρ:Rho):Option Value→Option Value→Prop
 |none,none=>True
 |some v,some v'=>VR ρ v v'
 |_,_=>False
theorem FrR.opt{ρ:Rho}{f:AFr}{a:Act}(h:FrR ρ f a)(x:Option Operand):OptR ρ (x.map f.ev) (x.map a.eval):=by
 cases x with
 |none=>trivial
 |some x=>exact h.ev x
theorem boundL_run{P:Program}{x x':Option Value}{d m r:Nat}{ρ:Rho}(h:d2_ x d m= .ok r)(hx:OptR ρ x x'):
  (x'=none∧r=d)∨ ∃v',x'=some v'∧r≤m∧ ∀(m':Nat) (c:BoundsCode) (w:World),m≤m'→(Instr.sliceBound v' m' c).run P w= .ok r w:=by
 unfold d2_ at h
 split at h
 ·cases x' with
  |none=>cases h;exact .inl ⟨rfl,rfl⟩
  |some v=>exact hx.elim
 ·rename_i k i
  obtain⟨h1,h2⟩:=ck_ h
  cases h2
  have h3:r≤m:=Nat.le_of_ble_eq_true h1
  cases x' with
  |none=>exact hx.elim
  |some v=>
   cases hx
   refine .inr ⟨_,rfl,h3,fun m' c w hm=> ?_⟩
   have h4:(0:Int)≤(Int.ofNat r)∧(Int.ofNat r)≤m':=⟨Int.natCast_nonneg r,by simp;omega⟩
   simp only[Instr.sliceBound,asIntOf,Sem.run_bind,Sem.run_pure,Result.andThen_ok,h4,and_self,if_true]
   rfl
 ·cases h
theorem p6_{P:Program}{lo hi lo' hi':Option Value}{len cap cap' h l:Nat}{ρ:Rho}(h1:d2_ hi len cap= .ok h)(h2:d2_ lo 0 h= .ok l)(hh:OptR ρ hi hi')(hl:OptR ρ lo lo')(hc:cap≤cap')(isS:Bool)(w:World):
  (Instr.sliceBounds isS len cap' lo' hi' none).run P w= .ok (l,h,cap') w∧l≤h∧(h≤cap∨h=len):=by
 have hlh:l≤h:=by
  rcases boundL_run (P:=P) h2 hl with⟨_,rfl⟩|⟨v,_,e,_⟩
  ·omega
  ·exact e
 rcases boundL_run (P:=P) h1 hh with⟨rfl,rfl⟩|⟨v,rfl,e1,e2⟩
 ·refine⟨?_,hlh,.inr rfl⟩
  rcases boundL_run (P:=P) h2 hl with⟨rfl,rfl⟩|⟨u,rfl,e3,e4⟩
  ·simp only[Instr.sliceBounds,Sem.run_bind,Sem.run_pure,Result.andThen_ok]
  ·simp only[Instr.sliceBounds,Sem.run_bind,Sem.run_pure,Result.andThen_ok,e4 h _ w (Nat.le_refl _)]
 ·refine⟨?_,hlh,.inl e1⟩
  rcases boundL_run (P:=P) h2 hl with⟨rfl,rfl⟩|⟨u,rfl,e3,e4⟩
  ·simp only[Instr.sliceBounds,Sem.run_bind,Sem.run_pure,Result.andThen_ok,e2 cap' _ w hc]
  ·simp only[Instr.sliceBounds,Sem.run_bind,Sem.run_pure,Result.andThen_ok,e2 cap' _ w hc,e4 h _ w (Nat.le_refl _)]
theorem U8_{P:Program}{o:Oper}{f:AFr}{st:ASt}{t:TypeId}{x:Operand}{lo hi:Option Operand}{s:ByteArray}{h l:Nat}(ho:o.op= .slice t x lo hi none)(hx:f.ev x= .string s)(hd:undL P t= .ok .string)
  (h1:d2_ (hi.map f.ev) s.size s.size= .ok h) (h2:d2_ (lo.map f.ev) 0 h= .ok l):OpR P o f st (.val (.string ⟨((s.data.toList.take h).drop l).toArray⟩) st):=
 OpR.quiet fun ρ w a hf hw=>by
  have hc:=hf.ev x
  rw[hx]at hc
  have hX:=hc.string_inv
  obtain⟨r1,r2,r3⟩:=p6_ (P:=P) (cap':=s.size) h1 h2 (hf.opt hi) (hf.opt lo) (Nat.le_refl _) false w
  refine⟨.string (s.extract l h),?_,?_⟩
  ·simp[execOp,ho,hX,Instr.sliceAt,ru_ hd,Instr.slice,r1]
  ·have:s.extract l h=⟨((s.data.toList.take h).drop l).toArray⟩:=by
    apply ByteArray.ext
    rw[ByteArray.data_extract]
    apply Array.toList_inj.1
    simp[Array.toList_extract,List.extract_eq_take_drop,List.drop_take]
   rw[this]
   exact .string _
theorem V1_{P:Program}{o:Oper}{f:AFr}{st:ASt}{t e:TypeId}{x:Operand}{lo hi:Option Operand}{h l n:Nat}(ho:o.op= .slice t x lo hi none)(hx:f.ev x= .slice none 0 0)(hd:undL P t= .ok (.slice e))(hn:b3_ P e= .ok n)
  (h1:d2_ (hi.map f.ev) 0 0= .ok h) (h2:d2_ (lo.map f.ev) 0 0= .ok l):OpR P o f st (.val (.slice none 0 0) st):=
 OpR.quiet fun ρ w a hf hw=>by
  have hc:=hf.ev x
  rw[hx]at hc
  generalize hX:a.eval x=X at hc
  cases hc
  have hh0:h=0:=by
   rcases boundL_run (P:=P) h1 (hf.opt hi)with⟨_,e⟩|⟨v,_,e,_⟩<;>omega
  subst hh0
  obtain⟨r1,r2,r3⟩:=p6_ (P:=P) (cap':=0) h1 h2 (hf.opt hi) (hf.opt lo) (Nat.le_refl _) true w
  have hl0:l=0:=by omega
  subst hl0
  exact⟨.slice none 0 0,by simp[execOp,ho,hX,Instr.sliceAt,ru_ hd,Instr.slice,r1,a3_ hn],.sliceNil⟩
theorem op_slice_ex{P:Program}{o:Oper}{f:AFr}{st:ASt}{t e:TypeId}{x:Operand}{lo hi:Option Operand}{h l n len cap es:Nat}{b0 o0:Nat}{cs:List Value}(ho:o.op= .slice t x lo hi none)(hx:f.ev x= .slice (some ⟨b0,o0,none⟩) len cap)(hd:undL P t= .ok (.slice e))(hn:b3_ P e= .ok n)
  (hg:st.h.get b0=some (.cells cs true es)) (h1:d2_ (hi.map f.ev) len cap= .ok h) (h2:d2_ (lo.map f.ev) 0 h= .ok l):OpR P o f st (.val (.slice (some (cond (Nat.beq cap l) ⟨b0,o0,none⟩ ((⟨b0,o0,none⟩:Addr).add (l*n)))) (h-l) (cap-l)) st):=
 OpR.quiet fun ρ w a hf hw=>by
  have hc:=hf.ev x
  rw[hx]at hc
  generalize hX:a.eval x=X at hc
  cases hc with
  |slice _ _ s _ _ c' o' hs hnc hcc hxx hr hoo=>
   obtain⟨s',e1,e2⟩:=hw.obj _ _ hg
   rw[hs]at e1;cases e1
   have hex:s.ex=true:=e2.2.1
   have hcap:=hxx hex
   subst hcap
   obtain⟨r1,r2,r3⟩:=p6_ (P:=P) (cap':=c') h1 h2 (hf.opt hi) (hf.opt lo) (Nat.le_refl _) true w
   have hhc:h≤c':=by omega
   refine⟨.slice (some (if c'=l then⟨s.blk,o',none⟩else(⟨s.blk,o',none⟩:Addr).add (l*n))) (h-l) (c'-l),?_,?_⟩
   ·simp only[execOp,ho,hX,Instr.sliceAt,Sem.run_bind,ru_ hd,Result.andThen_ok,Instr.slice,Option.map_none,r1,a3_ hn,Sem.run_pure,Option.map_some]
    congr 3
    split<;>rfl
   ·by_cases hcl:c'=l
    ·have hb:Nat.beq c' l=true:=by rw[hcl];exact Nat.beq_refl l
     rw[hb,if_pos hcl]
     exact .slice b0 o0 s _ _ _ o' hs (by omega) (Nat.le_refl _) (fun _=>rfl) (fun h=>by rw[hex]at h;cases h) (.inr (by omega))
    ·have hb:Nat.beq c' l=false:=by
      cases hb:Nat.beq c' l with
      |true=>exact absurd (Nat.eq_of_beq_eq_true hb) hcl
      |false=>rfl
     rw[hb,if_neg hcl]
     simp only[cond_false,e5_]
     exact .slice b0 (o0+l*n) s _ _ _ (o'+l*n) hs (by omega) (Nat.le_refl _) (fun _=>rfl) (fun h=>by rw[hex]at h;cases h) (by rcases hoo with hoo|hoo<;>omega)
theorem V0_{P:Program}{o:Oper}{f:AFr}{st:ASt}{t e:TypeId}{x:Operand}{lo hi:Option Operand}{h l n len cap:Nat}{b0 o0:Nat}{cs:List Value}(ho:o.op= .slice t x lo hi none)(hx:f.ev x= .slice (some ⟨b0,o0,none⟩) len cap)(hd:undL P t= .ok (.slice e))(hn:b3_ P e= .ok n)
  (hg:st.h.get b0=some (.cells cs false n)) (h1:d2_ (hi.map f.ev) len cap= .ok h) (h2:d2_ (lo.map f.ev) 0 h= .ok l):OpR P o f st (.val (.slice (some ((⟨b0,o0,none⟩:Addr).add (l*n))) (h-l) (cap-l)) st):=
 OpR.quiet fun ρ w a hf hw=>by
  have hc:=hf.ev x
  rw[hx]at hc
  generalize hX:a.eval x=X at hc
  cases hc with
  |slice _ _ s _ _ c' o' hs hnc hcc hxx hr hoo=>
   obtain⟨s',e1,e2⟩:=hw.obj _ _ hg
   rw[hs]at e1;cases e1
   have hex:s.ex=false:=e2.2.1
   have hes:s.es=n:=e2.2.2.1
   obtain⟨r1,r2,r3⟩:=p6_ (P:=P) (cap':=c') h1 h2 (hf.opt hi) (hf.opt lo) hcc true w
   have hhc:h≤cap:=by omega
   have hro:=hr hex
   rw[hes]at hro
   refine⟨.slice (some (if c'=l then⟨s.blk,o',none⟩else(⟨s.blk,o',none⟩:Addr).add (l*n))) (h-l) (c'-l),?_,?_⟩
   ·simp only[execOp,ho,hX,Instr.sliceAt,Sem.run_bind,ru_ hd,Result.andThen_ok,Instr.slice,Option.map_none,r1,a3_ hn,Sem.run_pure,Option.map_some]
    congr 3
    split<;>rfl
   ·simp only[e5_]
    by_cases hcl:c'=l
    ·rw[if_pos hcl]
     have hz:o'+(c'-l)*s.es≤s.room:=by
      rw[show c'-l=0 by omega]
      have:=Nat.zero_le (c'*n)
      omega
     exact .slice b0 (o0+l*n) s _ _ _ o' hs (by omega) (by omega) (fun h=>by rw[hex]at h;cases h) (fun _=>hz) (.inr (by omega))
    ·rw[if_neg hcl]
     have hm:(c'-l)*n+l*n=c'*n:=by rw[←Nat.add_mul];congr 1;omega
     exact .slice b0 (o0+l*n) s _ _ _ (o'+l*n) hs (by omega) (by omega) (fun h=>by rw[hex]at h;cases h) (fun _=>by rw[hes];omega) (by rcases hoo with hoo|hoo<;>omega)
theorem U9_{P:Program}{o:Oper}{f:AFr}{st:ASt}{t e:TypeId}{x:Operand}{lo hi:Option Operand}{h l n len cap:Nat}{b0 i0 lo' hi':Nat}{own:Rk}{elem:Nat→Nat→Td}(ho:o.op= .slice t x lo hi none)(hx:f.ev x= .slice (some ⟨b0,0,some i0⟩) len cap)(hd:undL P t= .ok (.slice e))(hn:b3_ P e= .ok n)
  (hg:st.h.get b0=some (.row own n lo' hi' elem)) (h1:d2_ (hi.map f.ev) len len= .ok h) (h2:d2_ (lo.map f.ev) 0 h= .ok l):OpR P o f st (.val (.slice (some ⟨b0,0,some (i0+l)⟩) (h-l) (cond (Nat.beq len 0) cap 0)) st):=
 OpR.quiet fun ρ w a hf hw=>by
  have hc:=hf.ev x
  rw[hx]at hc
  generalize hX:a.eval x=X at hc
  cases hc with
  |sliceI _ _ s _ _ c' o' hs hnc hcc hr hv hoo=>
   obtain⟨s',e1,e2,_⟩:=hw.obj _ _ hg
   rw[hs]at e1;cases e1
   obtain⟨r1,r2,r3⟩:=p6_ (P:=P) (cap':=c') h1 h2 (hf.opt hi) (hf.opt lo) (by omega) true w
   have hhc:h≤c':=by omega
   have hfl:(cond (Nat.beq len 0) cap 0)≠0→0<h-l:=by
    intro hne
    cases len with
    |zero=>exact absurd (hcc (by simpa using hne)) (by simp)
    |succ len=>exact absurd rfl hne
   refine⟨.slice (some (if c'=l then⟨s.blk,o',none⟩else(⟨s.blk,o',none⟩:Addr).add (l*n))) (h-l) (c'-l),?_,?_⟩
   ·simp only[execOp,ho,hX,Instr.sliceAt,Sem.run_bind,ru_ hd,Result.andThen_ok,Instr.slice,Option.map_none,r1,a3_ hn,Sem.run_pure,Option.map_some]
    congr 3
    split<;>rfl
   ·simp only[e5_]
    by_cases hcl:c'=l
    ·rw[if_pos hcl]
     exact .sliceI b0 _ s _ _ _ o' hs (by omega) hfl (fun hex=>by have:=hr hex;rw[show c'-l=0 by omega];omega) hv (.inr (by omega))
    ·rw[if_neg hcl]
     have hm:(c'-l)*n+l*n=c'*n:=by rw[←Nat.add_mul];congr 1;omega
     exact .sliceI b0 _ s _ _ _ (o'+l*n) hs (by omega) hfl (fun hex=>by have:=hr hex;rw[e2]at this ⊢;omega) hv (by
      rcases hoo with hoo|hoo
      ·left;rw[hoo,e2,Nat.add_mul];omega
      ·omega)
  |sliceE _ _ c' x s hs hex=>
   obtain⟨r1,r2,r3⟩:=p6_ (P:=P) (cap':=c') h1 h2 (hf.opt hi) (hf.opt lo) (by omega) true w
   have hh:h=0:=by omega
   have hl:l=0:=by omega
   subst hh;subst hl
   refine⟨.slice (some (if c'=0 then x else x.add (0*n))) (0-0) (c'-0),?_,.sliceE b0 _ _ _ s hs hex⟩
   simp only[execOp,ho,hX,Instr.sliceAt,Sem.run_bind,ru_ hd,Result.andThen_ok,Instr.slice,Option.map_none,r1,a3_ hn,Sem.run_pure,Option.map_some]
   congr 3
   split<;>rfl
  |sliceN=>
   obtain⟨r1,r2,r3⟩:=p6_ (P:=P) (cap':=0) h1 h2 (hf.opt hi) (hf.opt lo) (by omega) true w
   have hh:h=0:=by omega
   have hl:l=0:=by omega
   subst hh;subst hl
   refine⟨.slice none (0-0) (0-0),?_,.sliceN b0 _⟩
   simp only[execOp,ho,hX,Instr.sliceAt,Sem.run_bind,ru_ hd,Result.andThen_ok,Instr.slice,Option.map_none,r1,a3_ hn,Sem.run_pure,if_true]
  |sliceZ _ _ x=>
   obtain⟨r1,r2,r3⟩:=p6_ (P:=P) (cap':=0) h1 h2 (hf.opt hi) (hf.opt lo) (by omega) true w
   have hh:h=0:=by omega
   have hl:l=0:=by omega
   subst hh;subst hl
   refine⟨.slice (some x) (0-0) (0-0),?_,.sliceZ b0 _ x⟩
   simp only[execOp,ho,hX,Instr.sliceAt,Sem.run_bind,ru_ hd,Result.andThen_ok,Instr.slice,Option.map_none,r1,a3_ hn,Sem.run_pure,Option.map_some,if_true]
theorem m8_{P:Program}{o:Oper}{f:AFr}{st:ASt}{t e:TypeId}{x m h:Operand}{k k':IntKind}{n:Nat}{v:Value}(ho:o.op= .slice t x none (some h) (some m))(hm:f.ev m= .int k (.ofNat 0))(hh:f.ev h= .int k' (.ofNat 0))(hd:undL P t= .ok (.slice e))(hn:b3_ P e= .ok n)
  (hv:(∃b0 i0 a c,f.ev x= .slice (some ⟨b0,0,some i0⟩) a c∧v= .slice (some ⟨b0,1,some i0⟩) 0 0)∨(f.ev x= .slice none 0 0∧v= .slice none 0 0)∨ ∃b0 o0 a c,f.ev x= .slice (some ⟨b0,o0,none⟩) a c∧v= .slice (some ⟨b0,1,some 0⟩) 0 0):OpR P o f st (.val v st):=
 OpR.quiet fun ρ w a hf hw=>by
  have hM:=hf.ev m
  rw[hm]at hM
  have hH:=hf.ev h
  rw[hh]at hH
  have hX:=hf.ev x
  have main: ∀(b:Option Addr) (l c:Nat),a.eval x= .slice b l c→VR ρ v (.slice b 0 0)→ ∃v',(execOp a.eval o).run P w= .ok (.value v') w∧VR ρ v v':=by
   intro b l c hA hv
   refine⟨.slice b 0 0,?_,hv⟩
   generalize hMM:a.eval m=M at hM
   generalize hHH:a.eval h=H at hH
   cases hM;cases hH
   have hb: ∀(k:IntKind) (m':Nat) (cc:BoundsCode) (w:World),(Instr.sliceBound (.int k (Int.ofNat 0)) m' cc).run P w= .ok 0 w:=by
    intro k m' cc w
    have h4:(0:Int)≤(Int.ofNat 0)∧(Int.ofNat 0)≤m':=⟨Int.natCast_nonneg 0,by simp⟩
    simp only[Instr.sliceBound,asIntOf,Sem.run_bind,Sem.run_pure,Result.andThen_ok,h4,and_self,if_true]
    rfl
   simp only[execOp,ho,hA,hMM,hHH,Instr.sliceAt,Sem.run_bind,ru_ hd,Result.andThen_ok,Instr.slice,Instr.sliceBounds,Option.map_none,Option.map_some,hb,a3_ hn,Sem.run_pure,if_true,Nat.sub_self]
  rcases hv with⟨b0,i0,l,c,hx,rfl⟩|⟨hx,rfl⟩|⟨b0,o0,l,c,hx,rfl⟩
  ·rw[hx]at hX
   generalize hA:a.eval x=A at hX
   cases hX with
   |sliceI=>exact main _ _ _ hA (.sliceX _ _ _)
   |sliceE=>exact main _ _ _ hA (.sliceX _ _ _)
   |sliceN=>exact main _ _ _ hA (.sliceX _ _ _)
   |sliceZ=>exact main _ _ _ hA (.sliceX _ _ _)
  ·rw[hx]at hX
   generalize hA:a.eval x=A at hX
   cases hX
   exact main _ _ _ hA .sliceNil
  ·rw[hx]at hX
   generalize hA:a.eval x=A at hX
   cases hX with
   |slice=>exact main _ _ _ hA (.sliceX _ _ _)
theorem amd_{P:Program}{ρ:Rho}{st:ASt}{w:World}{t:TypeId}{ts:List TypeId}{ty:TypeId}{x x' v:Value}(h:aLen P st t x= .ok v)(hx:VR ρ x x')(hw:WR ρ st.h.get w):
  (Builtin.len_ (t::ts).toArray ty #[x']).run P w= .ok v w∧VR ρ v v:=by
 unfold aLen at h
 obtain⟨d,hd,h⟩:=bk_ h
 split at h
 ·cases h
  have:=hx.string_inv
  subst this
  exact⟨by simp[Builtin.len_,ru_ hd,goInt],.int _ _⟩
 ·cases h
  cases hx<;>exact⟨by simp[Builtin.len_,ru_ hd,goInt],.int _ _⟩
 ·cases h
  cases hx
  exact⟨by simp[Builtin.len_,ru_ hd,goInt],.int _ _⟩
 ·rename_i r
  split at h
  ·rename_i es clock hg
   cases h
   cases hx with
   |map a s hs=>
    obtain⟨s',e1,_,E,e2,e3,e4⟩:=hw.obj _ _ hg
    rw[hs]at e1;cases e1
    have hgo:(getObj s.blk).run P w= .ok (.map E clock) w:=by simp[getObj,Sem.run,e2]
    exact⟨by simp[Builtin.len_,ru_ hd,goInt,hgo,e3],.int _ _⟩
  ·cases h
 ·cases h
  exact⟨by simp[Builtin.len_,ru_ hd,goInt],.int _ _⟩
 ·cases h
theorem amI_{P:Program}{ρ:Rho}{st:ASt}{w:World}{t:TypeId}{ts:List TypeId}{ty:TypeId}{x x' v:Value}{e:TypeId}(h:aCap st x= .ok v)(hd:undL P t= .ok (.slice e))(hx:VR ρ x x')(hw:WR ρ st.h.get w):
  (Builtin.cap_ (t::ts).toArray ty #[x']).run P w= .ok v w∧VR ρ v v:=by
 unfold aCap at h
 split at h
 ·cases h
  cases hx
  exact⟨by simp[Builtin.cap_,ru_ hd,goInt],.int _ _⟩
 ·split at h
  ·rename_i hg
   cases h
   cases hx with
   |slice a o s _ _ c' o' hs hn hc hxx hr ho=>
    obtain⟨s',e1,e2⟩:=hw.obj _ _ hg
    rw[hs]at e1;cases e1
    have:=hxx e2.2.1
    subst this
    exact⟨by simp[Builtin.cap_,ru_ hd,goInt],.int _ _⟩
  ·cases h
 ·cases h
theorem t1_{P:Program}{ρ:Rho}{t:TypeId}{z:Value}(h:I0_ P t= .ok z):(∀w,(zeroValue t).run P w= .ok z w)∧VR ρ z z:=by
 unfold I0_ at h
 split at h
 ·rename_i i e
  split at h
  ·rename_i z' ez
   obtain⟨h1,h2⟩:=ck_ h
   cases h2
   exact⟨fun w=>by simp[zeroValue,typeInfo,e,ez],VR.refl 3 h1⟩
  ·cases h
 ·cases h
theorem VR.pair{ρ:Rho}{v v':Value}(h:VR ρ v v')(b:Bool):VR ρ (.tuple #[v,.bool b]) (.tuple #[v',.bool b]):=VR.tuple' (VRL.cons h (VRL.cons (.bool b) (VRL.nil ρ)))
theorem op_typeAssert{P:Program}{o:Oper}{f:AFr}{st:ASt}{x:Operand}{xt t:TypeId}{ok:Bool}{d:TypeDesc}{r:AN}(h:o.op= .typeAssert x xt t ok)(hd:undL P t= .ok d)(hni: ∀m,d≠ .interface m)
  (hr:(match f.ev x with
   | .nilIface=>cond ok ((I0_ P t).bnd fun z=> .ok (.val (.tuple #[z,.bool false]) st)) (.er "typeAssert: nil")
   | .iface t' v=>cond (Nat.beq t' t) (.ok (.val (cond ok (.tuple #[v,.bool true]) v) st)) (cond ok ((I0_ P t).bnd fun z=> .ok (.val (.tuple #[z,.bool false]) st)) (.er "typeAssert: fails"))
   |_=> .er "typeAssert")=Rs.ok r):OpR P o f st r:=by
 have hc: ∀ρ a,FrR ρ f a→VR ρ (f.ev x) (a.eval x):=fun ρ a hf=>hf.ev x
 split at hr
 ·rename_i hx
  obtain⟨h1,h2⟩:=ck_ hr
  obtain⟨z,h3,h4⟩:=bk_ h2
  cases h4
  subst h1
  refine OpR.quiet fun ρ w a hf hw=> ?_
  have hX:=hc ρ a hf
  rw[hx]at hX
  generalize hA:a.eval x=A at hX
  cases hX
  obtain⟨z1,z2⟩:=t1_ (ρ:=ρ) h3
  refine⟨.tuple #[z,.bool false],?_,VR.pair z2 false⟩
  simp only[execOp,h,hA,Instr.typeAssert,Sem.run_bind,ru_ hd,Result.andThen_ok]
  cases d<;>first|exact absurd rfl (hni _)|simp[z1]
 ·rename_i t' v hx
  cases ht:Nat.beq t' t with
  |true=>
   rw[ht]at hr
   cases hr
   have e:t'=t:=Nat.eq_of_beq_eq_true ht
   subst e
   refine OpR.quiet fun ρ w a hf hw=> ?_
   have hX:=hc ρ a hf
   rw[hx]at hX
   generalize hA:a.eval x=A at hX
   cases hX with
   |iface _ _ v' hv=>
    cases ok with
    |true=>
     refine⟨.tuple #[v',.bool true],?_,VR.pair hv true⟩
     simp only[execOp,h,hA,Instr.typeAssert,Sem.run_bind,ru_ hd,Result.andThen_ok]
     cases d<;>first|exact absurd rfl (hni _)|simp
    |false=>
     refine⟨v',?_,hv⟩
     simp only[execOp,h,hA,Instr.typeAssert,Sem.run_bind,ru_ hd,Result.andThen_ok]
     cases d<;>first|exact absurd rfl (hni _)|simp
  |false=>
   rw[ht]at hr
   simp only[cond_false]at hr
   obtain⟨h1,h2⟩:=ck_ hr
   obtain⟨z,h3,h4⟩:=bk_ h2
   cases h4
   subst h1
   have e:t'≠t:=Nat.ne_of_beq_eq_false ht
   refine OpR.quiet fun ρ w a hf hw=> ?_
   have hX:=hc ρ a hf
   rw[hx]at hX
   generalize hA:a.eval x=A at hX
   cases hX with
   |iface _ _ v' hv=>
    obtain⟨z1,z2⟩:=t1_ (ρ:=ρ) h3
    refine⟨.tuple #[z,.bool false],?_,VR.pair z2 false⟩
    simp only[execOp,h,hA,Instr.typeAssert,Sem.run_bind,ru_ hd,Result.andThen_ok]
    cases d<;>first|exact absurd rfl (hni _)|simp[z1,e]
 ·cases hr
theorem aio_{ρ:Rho}{x y:Value}(hxy:VR ρ x y)(hx:oneC x=true):y.oneCell'=true:=by
 cases hxy<;>first|rfl|simp[oneC,bad]at hx
theorem V6_{ρ:Rho}{l l':List Value}(hl:VRL ρ l l')(ha:l.all oneC=true): ∀v∈l',v.oneCell'=true:=by
 intro v hv
 obtain⟨i,hi⟩:=List.getElem?_of_mem hv
 have h2:i<l.length:=by
  have:=(List.getElem?_eq_some_iff.1 hi).1
  have:=hl.1
  omega
 have h3:=hl.2 i _ v (List.getElem?_eq_getElem h2) hi
 rw[List.all_eq_true]at ha
 exact aio_ h3 (ha _ (List.getElem_mem h2))
theorem ade_{P:Program}{ρ:Rho}{st:ASt}{w:World}{size n:Nat}{x x':Value}{l:List Value}(h:ach_ st size x= .ok (n,l))(hx:VR ρ x x')(hw:WR ρ st.h.get w):
  (∀w0,(Builtin.lenOf x').run P w0= .ok n w0)∧ ∃l',VRL ρ l l'∧l'.length=n*size∧(∀w1:World,w1.heap=w.heap→(Builtin.firstCells size n x').run P w1= .ok l'.toArray w1)∧(l.all oneC=true→ ∀v∈l',v.oneCell'=true):=by
 have nothing: ∀{a:Addr} (l0:List Value),st.readC a (0*size)= .ok l0→ ∀(x:Option Addr) (c':Nat),(∀w0,(Builtin.lenOf (.slice x 0 c')).run P w0= .ok 0 w0)∧ ∃l',VRL ρ l0 l'∧l'.length=0*size∧(∀w1:World,w1.heap=w.heap→(Builtin.firstCells size 0 (.slice x 0 c')).run P w1= .ok l'.toArray w1)∧(l0.all oneC=true→ ∀v∈l',v.oneCell'=true):=by
  intro a l0 h1 x c'
  have hl0:l0=[]:=by
   have:0*size=0:=Nat.zero_mul _
   unfold ASt.readC at h1
   rw[this]at h1
   split at h1
   ·split at h1<;>first|(cases h1;done)|(have:=O9_ h1;simp only[s0_,Option.some.injEq]at this;exact this.symm)
   ·split at h1<;>first|(cases h1;done)|(have:=O9_ h1;simp only[s0_,Option.some.injEq]at this;exact this.symm)
   ·cases h1
  subst hl0
  refine⟨fun w0=>rfl,[],VRL.nil ρ,by simp,fun w1 _=> ?_,fun _ v hv=>by simp at hv⟩
  have h0:0*size=0:=Nat.zero_mul _
  cases x<;>simp only[Builtin.firstCells,loadCells,h0]<;>rfl
 unfold ach_ at h
 split at h
 ·cases h
  cases hx
  exact⟨fun w0=>rfl,[],VRL.nil ρ,by simp,fun w1 _=>by simp[Builtin.firstCells],fun _ v hv=>by simp at hv⟩
 ·rename_i a m c
  obtain⟨l0,h1,h2⟩:=bk_ h
  cases h2
  cases hx with
  |slice b o s _ _ c' o' hs hn hc hxx hr ho=>
   obtain⟨l',r1,r2,r3⟩:=o2_ h1 hw hs
   refine⟨fun w0=>rfl,l',r1,r2,fun w1 hw1=> ?_,V6_ r1⟩
   simp only[j8_]at r3
   by_cases h0:n*size=0
   ·have:l'=[]:=List.eq_nil_of_length_eq_zero (by rw[r2,h0])
    subst this
    simp only[Builtin.firstCells,loadCells,h0]
    rfl
   ·have ho':o'=s.base+o:=by
     rcases ho with ho|ho
     ·exact ho
     ·exfalso
      have:n=0:=by omega
      rw[this]at h0;simp at h0
    subst ho'
    have:=run_loadCells_list (P:=P) (w:=w1) ⟨s.blk,s.base+o,none⟩ l' (fun j v hv=>by
     have:=r3 j v hv
     unfold World.cell? at this ⊢
     rw[hw1];exact this)
    rw[r2]at this
    simp only[Builtin.firstCells,this]
  |sliceI b i s _ _ c' o' hs hn hc hr hv ho=>
   exfalso
   unfold ASt.readC at h1
   split at h1<;>cases h1
  |sliceE b i c' x s hs hex=>exact nothing _ h1 _ _
  |sliceN b i=>exact nothing _ h1 _ _
  |sliceZ b i x=>exact nothing _ h1 _ _
  |sliceX b i x=>exact nothing _ h1 _ _
 ·rename_i s
  obtain⟨hs1,h⟩:=ck_ h
  have hs1:size=1:=Nat.eq_of_beq_eq_true hs1
  subst hs1
  cases h
  have:=hx.string_inv
  subst this
  have he:s.extract 0 s.size=s:=by
   apply ByteArray.ext
   rw[ByteArray.data_extract]
   apply Array.toList_inj.1
   simp only[Array.toList_extract,List.extract_eq_take_drop,Nat.sub_zero,List.drop_zero]
   exact List.take_of_length_le (by simp)
  refine⟨fun w0=>rfl,s.data.toList.map fun b=> .int .u8 b.toNat,⟨rfl,fun i x y hx hy=>by rw[hx]at hy;cases hy;simp only[List.getElem?_map]at hx;cases hd:s.data.toList[i]? with|none=>rw[hd]at hx;cases hx|some b=>rw[hd]at hx;cases hx;exact .int _ _⟩,by simp,fun w1 _=> ?_,fun _ v hv=> ?_⟩
  ·simp only[Builtin.firstCells,he,Sem.run_pure]
   congr 1
   apply Array.toList_inj.1
   simp
  ·simp only[List.mem_map]at hv
   obtain⟨b,_,rfl⟩:=hv
   rfl
 ·cases h
end Go.Proofs.YtachglcffimmeaaGreat.Ev
