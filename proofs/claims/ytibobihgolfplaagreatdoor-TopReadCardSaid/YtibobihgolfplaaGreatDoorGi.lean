/-
  Data that came in, read as trees; a law over such data.
-/
import Derived.Test.YtibobihgolfplaaGreatDoorGh
import Derived.Deep.Slices
import Derived.WideShapes
set_option linter.unusedVariables false
set_option linter.unusedSimpArgs false
section
namespace Go.Proofs.YtibobihgolfplaaGreatDoor.Ev
open Go Go.RowKit
inductive Sh where
 |bool
 |int (k:IntKind)
 |flt (k:FloatKind)
 |str
 |sl (es:Nat) (c:Nat→Sh)
def ShOk:Sh→Td→Prop
 | .bool,.sc (.bool _)=>True
 | .int k,.sc (.int k' n)=>k'=k∧(Lit.int k n).wf=true
 | .flt k,.sc (.float k' b)=>k'=k∧(Lit.float k b).wf=true
 | .str,.sc (.string s)=>s.size≤maxLen
 | .sl es c,.fr es' n cc e=>es'=es∧cc≤1∧n≤maxLen∧ ∀i,i<n→ ∀j,j<es→ShOk (c j) (e i j)
 |_,_=>False
def ShTL(l:List Sh)(ts:List Td):Prop:=l.length=ts.length∧ ∀(j:Nat) s t,l[j]? =some s→ts[j]? =some t→ShOk s t
theorem ShTL.nil:ShTL [] []:=⟨rfl,fun j s t h=>by simp at h⟩
theorem ShTL.one{s:Sh}{t:Td}(h:ShOk s t):ShTL [s] [t]:=⟨rfl,fun j s' t' h1 h2=>by
 cases j with
 |zero=>simp at h1 h2;subst h1 h2;exact h
 |succ j=>simp at h1⟩
theorem ShTL.app{l l':List Sh}{m m':List Td}(h:ShTL l m)(k:ShTL l' m'):ShTL (l++l') (m++m'):=by
 refine⟨by simp[h.1,k.1],fun j s t hs ht=> ?_⟩
 rcases Nat.lt_or_ge j l.length with hj|hj
 ·rw[List.getElem?_append_left hj]at hs
  rw[List.getElem?_append_left (by have:=h.1;omega)]at ht
  exact h.2 j s t hs ht
 ·rw[List.getElem?_append_right hj]at hs
  rw[List.getElem?_append_right (by have:=h.1;omega),←h.1]at ht
  exact k.2 _ s t hs ht
theorem TRL.app{w:World}{F:Nat→Prop}{l l':List Td}{m m':List Value}(h:TRL w F l m)(k:TRL w F l' m'):TRL w F (l++l') (m++m'):=by
 refine⟨by simp[h.1,k.1],fun j s t hs ht=> ?_⟩
 rcases Nat.lt_or_ge j l.length with hj|hj
 ·rw[List.getElem?_append_left hj]at hs
  rw[List.getElem?_append_left (by have:=h.1;omega)]at ht
  exact h.2 j s t hs ht
 ·rw[List.getElem?_append_right hj]at hs
  rw[List.getElem?_append_right (by have:=h.1;omega),←h.1]at ht
  exact k.2 _ s t hs ht
theorem TRL.one{w:World}{F:Nat→Prop}{t:Td}{y:Value}(h:TR w F t y):TRL w F [t] [y]:=TRL.cons h (TRL.nil w F)
def fieldsB(P:Program)(fl:TypeId→List Sh→Bool):List Field→Nat→List Sh→Bool
 |[],_,[]=>true
 |f::fs,off,l=>Nat.beq f.offset off&&fl f.type (l.take (P.cellsOf f.type))&&Nat.ble (P.cellsOf f.type) l.length&&fieldsB P fl fs (off+P.cellsOf f.type) (l.drop (P.cellsOf f.type))
 |[],_,_::_=>false
def elemsB(P:Program)(fl:List Sh→Bool)(c:Nat):Nat→List Sh→Bool
 |0,[]=>true
 |n+1,l=>fl (l.take c)&&Nat.ble c l.length&&elemsB P fl c n (l.drop c)
 |0,_::_=>false
def flatB(P:Program):Nat→TypeId→List Sh→Bool
 |0,_,_=>false
 |n+1,t,l=>match P.underlying t with
  |some .bool=>match l with|[.bool]=>true|_=>false
  |some (.int k)=>match l with|[.int k']=>decide (k=k')|_=>false
  |some (.float k)=>match l with|[.flt k']=>decide (k=k')|_=>false
  |some .string=>match l with|[.str]=>true|_=>false
  |some (.slice e)=>match l with|[.sl es c]=>Nat.beq es (P.cellsOf e)&&Nat.blt 0 es&&flatB P n e ((upto 0 es).map c)|_=>false
  |some (.struct fs)=>Nat.beq l.length (P.cellsOf t)&&fieldsB P (flatB P n) fs.toList 0 l
  |some (.array m e)=>Nat.beq l.length (P.cellsOf t)&&elemsB P (flatB P n e) (P.cellsOf e) m l
  |_=>false
theorem cell_lt{w:World}{a:Addr}{v:Value}(h:w.cell? a=some v):a.block<w.heap.size:=by
 unfold World.cell? at h
 split at h
 ·rename_i hb
  exact(Array.getElem?_eq_some_iff.1 hb).1
 ·cases h
section
variable {H:Type} {enc:TypeId×Value→H} {P:Program} {w:World} {base:Nat} {spare:Nat→Bool} {held:Bool}
theorem trod_float1{fuel:Nat}{t:TypeId}{cs:List Value}{x:DataW H×List MemPlace}{k:FloatKind}(ht:P.underlying t=some (.float k))(h:DataW.trod enc P w base spare held fuel t cs=some x): ∃b,cs=[.float k b]∧(Lit.float k b).wf=true:=by
 cases fuel with
 |zero=>simp[DataW.trod]at h
 |succ n=>
  unfold DataW.trod at h
  rw[ht]at h
  split at h<;>simp_all
theorem trod_array1{fuel:Nat}{t e:TypeId}{m:Nat}{cs:List Value}{x:DataW H×List MemPlace}(ht:P.underlying t=some (.array m e))(h:DataW.trod enc P w base spare held fuel t cs=some x):
  ∃n,cs.length=P.cellsOf t∧ ∀i,i<m→ ∃y,DataW.trod enc P w base spare held n e ((cs.drop (i*P.cellsOf e)).take (P.cellsOf e))=some y:=by
 cases fuel with
 |zero=>simp[DataW.trod]at h
 |succ n=>
  unfold DataW.trod at h
  rw[ht]at h
  split at h<;>simp_all
  obtain⟨hl,xs,hp,hd⟩:=h
  refine⟨n,fun i hi=> ?_⟩
  have h1:=mapM_some_get hp i i (by simp[hi])
  have h2:=mapM_some_length hp
  have:i<xs.length:=by rw[h2];simpa using hi
  rw[List.getElem?_eq_getElem this]at h1
  exact⟨_,_,h1⟩
def There(w:World)(b:Nat):Prop:=b<w.heap.size
def FlatR(w:World)(l:List Sh)(cs:List Value):Prop:= ∃ts,TRL w (There w) ts cs∧(∀v∈cs,v.oneCell'=true)∧ShTL l ts
theorem FlatR.app{l l':List Sh}{m m':List Value}(h:FlatR w l m)(k:FlatR w l' m'):FlatR w (l++l') (m++m'):=by
 obtain⟨ts,h1,h2,h3⟩:=h
 obtain⟨us,k1,k2,k3⟩:=k
 exact⟨ts++us,h1.app k1,fun v hv=>by rcases List.mem_append.1 hv with hv|hv;exact h2 v hv;exact k2 v hv,h3.app k3⟩
theorem FlatR.nil:FlatR w [] []:=⟨[],TRL.nil _ _,fun v hv=>by simp at hv,ShTL.nil⟩
theorem FlatR.one{s:Sh}{t:Td}{v:Value}(h:TR w (There w) t v)(h1:v.oneCell'=true)(k:ShOk s t):FlatR w [s] [v]:=⟨[t],TRL.one h,fun u hu=>by simp at hu;subst hu;exact h1,ShTL.one k⟩
theorem flat_ok: ∀(n:Nat) {fuel:Nat} {t:TypeId} {l:List Sh} {cs:List Value} {x:DataW H×List MemPlace},flatB P n t l=true→DataW.trod enc P w base spare held fuel t cs=some x→FlatR w l cs:=by
 intro n
 induction n with
 |zero=>intro fuel t l cs x h;cases h
 |succ n ih=>
  intro fuel t l cs x h hx
  unfold flatB at h
  split at h
  ·rename_i ht
   split at h
   ·obtain⟨b,rfl,_⟩:=DataW.trod_bool ht hx
    exact FlatR.one (t:= .sc (.bool b)) (.bool b) rfl trivial
   ·cases h
  ·rename_i k ht
   split at h
   ·have:=of_decide_eq_true h
    subst this
    obtain⟨b,rfl,_,hw⟩:=DataW.trod_int ht hx
    exact FlatR.one (t:= .sc (.int k b)) (.int k b) rfl ⟨rfl,hw⟩
   ·cases h
  ·rename_i k ht
   split at h
   ·have:=of_decide_eq_true h
    subst this
    obtain⟨b,rfl,hw⟩:=trod_float1 ht hx
    exact FlatR.one (t:= .sc (.float k b)) (.float k b) rfl ⟨rfl,hw⟩
   ·cases h
  ·rename_i ht
   split at h
   ·obtain⟨s,rfl,_,hw⟩:=DataW.trod_string ht hx
    exact FlatR.one (t:= .sc (.string s)) (.string s) rfl hw
   ·cases h
  ·rename_i e ht
   split at h
   ·rename_i es c
    simp only[Bool.and_eq_true]at h
    obtain⟨⟨he,hpos⟩,hfl⟩:=h
    have he:=Nat.eq_of_beq_eq_true he
    have hpos:0<es:=by simpa using hpos
    rcases Deep.open_slice ht hx with⟨rfl,_⟩|⟨a,len,cap,m,n',D,Pl,rfl,_,hlc,hm,hmm,_,hcell⟩
    ·exact FlatR.one (t:= .fr es 0 1 noT) (.inl ⟨rfl,rfl,rfl⟩) rfl ⟨rfl,Nat.le_refl _,Nat.zero_le _,fun i hi=>by omega⟩
    ·have hlm:len≤m:=by rw[hmm];split<;>omega
     rcases Nat.eq_zero_or_pos len with h0|hpl
     ·subst h0
      exact FlatR.one (t:= .fr es 0 0 noT) (.inr (.inl ⟨rfl,rfl,_,_,rfl⟩)) rfl ⟨rfl,Nat.zero_le _,Nat.zero_le _,fun i hi=>by omega⟩
     rw[←he]at hcell
     have hex: ∀i,i<len→ ∃cs' ts,w.cells? base (a.add (i*es)) es=some cs'∧TRL w (There w) ts cs'∧(∀v∈cs',v.oneCell'=true)∧ShTL ((upto 0 es).map c) ts:=fun i hi=>by
      obtain⟨cs',h1,h2⟩:=hcell i (by omega)
      obtain⟨ts,h3,h4,h5⟩:=ih hfl h2
      exact⟨cs',ts,h1,h3,h4,h5⟩
     let E:Nat→List Td:=fun i=>if h:i<len then Classical.choose (Classical.choose_spec (hex i h))else []
     have hE: ∀i,i<len→ ∃cs',w.cells? base (a.add (i*es)) es=some cs'∧TRL w (There w) (E i) cs'∧(∀v∈cs',v.oneCell'=true)∧ShTL ((upto 0 es).map c) (E i):=fun i hi=>by
      have:=Classical.choose_spec (Classical.choose_spec (hex i hi))
      refine⟨Classical.choose (hex i hi),?_⟩
      simp only[E,dif_pos hi]
      exact this
     obtain⟨b,o,sp⟩:=a
     have hspot:sp=none:=by
      obtain⟨cs',h1,_⟩:=hE 0 hpl
      obtain⟨_,h2,h3⟩:=World.cells?_some h1
      have h4:=h3 0 (by omega)
      rw[List.getElem?_eq_getElem (by omega)]at h4
      simpa [Addr.add]using World.cell?_spot h4
     subst hspot
     have hblk:b<w.heap.size:=by
      obtain⟨cs',h1,_⟩:=hE 0 hpl
      obtain⟨_,h2,h3⟩:=World.cells?_some h1
      have h4:=h3 0 (by omega)
      rw[List.getElem?_eq_getElem (by omega)]at h4
      simpa [Addr.add]using cell_lt h4
     have hup: ∀j,j<es→((upto 0 es).map c)[j]? =some (c j):=fun j hj=>by
      rw[List.getElem?_map,upto_get es 0 j hj,Nat.zero_add];rfl
     refine FlatR.one (t:= .fr es len 0 fun i j=>nthT (E i) j) (.inr (.inr ⟨hpl,b,o,cap,rfl,hlc,hblk,fun i hi j hj=> ?_⟩)) rfl ⟨rfl,Nat.zero_le _,Nat.le_trans hlc hm,fun i hi j hj=> ?_⟩
     ·obtain⟨cs',h1,h5,h6,h7⟩:=hE i hi
      obtain⟨_,h2,h3⟩:=World.cells?_some h1
      have hjc:j<cs'.length:=by omega
      have h4:=h3 j (by omega)
      rw[List.getElem?_eq_getElem hjc]at h4
      have htl:j<(E i).length:=by rw[h5.1];exact hjc
      refine⟨cs'[j],?_,h6 _ (List.getElem_mem hjc),?_⟩
      ·rw[←h4,add_at,add_at]
      ·dsimp only
       rw[nthT_eq (E i) j _ (List.getElem?_eq_getElem htl)]
       exact h5.2 j _ _ (List.getElem?_eq_getElem htl) (List.getElem?_eq_getElem hjc)
     ·obtain⟨cs',h1,h5,h6,h7⟩:=hE i hi
      have htl:j<(E i).length:=by have:=h7.1;simp[upto_len]at this;omega
      dsimp only
      rw[nthT_eq (E i) j _ (List.getElem?_eq_getElem htl)]
      exact h7.2 j _ _ (hup j hj) (List.getElem?_eq_getElem htl)
   ·cases h
  ·rename_i fs ht
   simp only[Bool.and_eq_true]at h
   obtain⟨xs,m,_,_,hl,hxl,hf⟩:=DataW.trod_struct ht hx
   have hlen:cs.length=l.length:=by rw[hl];exact(Nat.eq_of_beq_eq_true h.1).symm
   have key: ∀(fl:List Field) (k:Nat) (off:Nat) (l:List Sh),(∀i f,fl[i]? =some f→fs[k+i]? =some f)→fieldsB P (flatB P n) fl off l=true→cs.length=off+l.length→FlatR w l (cs.drop off):=by
    intro fl
    induction fl with
    |nil=>
     intro k off l _ h hl
     cases l with
     |nil=>rw[List.drop_eq_nil_of_le (by simp at hl;omega)];exact FlatR.nil
     |cons=>cases h
    |cons f fl ihf=>
     intro k off l hfs h hl
     unfold fieldsB at h
     simp only[Bool.and_eq_true]at h
     obtain⟨⟨⟨h1,h2⟩,h3⟩,h4⟩:=h
     have h1:=Nat.eq_of_beq_eq_true h1
     have h3:=Nat.le_of_ble_eq_true h3
     have e1:=hf k f (hfs 0 f rfl)
     have hk:k<xs.length:=by
      have:k<fs.size:=by
       have:=hfs 0 f rfl
       exact(Array.getElem?_eq_some_iff.1 this).1
      omega
     rw[List.getElem?_eq_getElem hk,h1]at e1
     have e2:=ih h2 e1
     have e3:=ihf (k+1) (off+P.cellsOf f.type) (l.drop (P.cellsOf f.type)) (fun i g hg=>by rw[show k+1+i=k+(i+1)by omega];exact hfs (i+1) g (by simpa using hg)) h4 (by rw[List.length_drop];omega)
     have:=e2.app e3
     rw[List.take_append_drop]at this
     rw[←List.drop_drop,List.take_append_drop]at this
     exact this
   have:=key fs.toList 0 0 l (fun i f hf=>by simpa using hf) h.2 (by omega)
   simpa using this
  ·rename_i m e ht
   simp only[Bool.and_eq_true]at h
   obtain⟨q,hl,hf⟩:=trod_array1 ht hx
   have hlen:cs.length=l.length:=by rw[hl];exact(Nat.eq_of_beq_eq_true h.1).symm
   have key: ∀(r k:Nat) (l:List Sh),k+r=m→elemsB P (flatB P n e) (P.cellsOf e) r l=true→cs.length=k*P.cellsOf e+l.length→FlatR w l (cs.drop (k*P.cellsOf e)):=by
    intro r
    induction r with
    |zero=>
     intro k l _ h hl
     cases l with
     |nil=>rw[List.drop_eq_nil_of_le (by simp at hl;omega)];exact FlatR.nil
     |cons=>cases h
    |succ r ihr=>
     intro k l hk h hl
     unfold elemsB at h
     simp only[Bool.and_eq_true]at h
     obtain⟨⟨h2,h3⟩,h4⟩:=h
     have h3:=Nat.le_of_ble_eq_true h3
     obtain⟨y,e1⟩:=hf k (by omega)
     have e2:=ih h2 e1
     have hm:(k+1)*P.cellsOf e=k*P.cellsOf e+P.cellsOf e:=Nat.succ_mul _ _
     have e3:=ihr (k+1) (l.drop (P.cellsOf e)) (by omega) h4 (by rw[List.length_drop,hm];omega)
     rw[hm]at e3
     have:=e2.app e3
     rw[List.take_append_drop]at this
     rw[←List.drop_drop,List.take_append_drop]at this
     exact this
   have:=key m 0 l (by omega) h.2 (by rw[Nat.zero_mul];omega)
   simpa using this
  ·cases h
end
theorem row_of_trod{H:Type}{enc:TypeId×Value→H}{P:Program}{w:World}{t:TypeId}{v:Value}{d:DataW H}{ps:List MemPlace}{b0 es:Nat}{c:Nat→Sh}{e:TypeId}(ht:P.underlying t=some (.slice e))(hl:flatB P 9 t [.sl es c]=true)
  (hv:Value.okWide P w .any b0 t v) (h:DataW.Trod enc P w 0 (fun _=>true) true t v d ps): ∃n cc el,TR w (There w) (.fr es n cc el) v∧ShOk (.sl es c) (.fr es n cc el):=by
 obtain⟨a,len,cap,rfl⟩:=WideShapes.okWide_slice ht hv
 obtain⟨fuel,hf⟩:=h
 have hcs:(Value.slice a len cap).cells.toList=[.slice a len cap]:=rfl
 rw[hcs]at hf
 obtain⟨ts,h1,h2,h3⟩:=flat_ok 9 hl hf
 have hlen:=h3.1
 cases ts with
 |nil=>simp at hlen
 |cons t0 ts=>
  cases ts with
  |cons=>simp at hlen
  |nil=>
   have k1:=h1.2 0 t0 _ rfl rfl
   have k2:=h3.2 0 _ t0 rfl rfl
   cases t0 with
   |sc x=>exact k2.elim
   |fr es' n cc el=>
    obtain⟨rfl,q⟩:=k2
    exact⟨n,cc,el,k1,rfl,q⟩
theorem arg_spot{w:World}{es n c:Nat}{e:Nat→Nat→Td}{v:Value}{F:Nat→Prop}(h:TR w F (.fr es n c e) v)(hF: ∀b,F b→b<w.heap.size):
  ∃s:Spot,s.fz=F∧(s.void=false→s.blk<w.heap.size)∧(∀(ρ:Rho) (k:Nat) s',ρ k=some s'→SameSpot s s'→VR ρ (.slice (some ⟨k,0,some 0⟩) n c) v)∧ ∀X F',ExtOk ⟨w.heap.size,w,X,F',noW⟩ s (.row .still es 0 n e):=by
 have hno: ∀{q:Prop},true=false→q:=by intro q h;cases h
 rcases h with⟨rfl,rfl,rfl⟩|⟨rfl,rfl,a,c',rfl⟩|⟨h0,b,o,c',rfl,h2,h3,h4⟩
 ·exact⟨⟨0,0,true,es,0,true,F⟩,rfl,(fun h=>hno h),fun ρ k s' hk hs=> .sliceN _ _,fun X F'=>⟨rfl,fun ρ w' hz hw=>⟨rfl,fun _=>Nat.le_refl _,(fun h=>by cases h),fun _ h=>hno h,fun i _ hi=>by omega⟩⟩⟩
 ·exact⟨⟨0,0,true,es,0,true,F⟩,rfl,(fun h=>hno h),fun ρ k s' hk hs=> .sliceE _ _ _ _ s' hk hs.ex,fun X F'=>⟨rfl,fun ρ w' hz hw=>⟨rfl,fun _=>Nat.le_refl _,(fun h=>by cases h),fun _ h=>hno h,fun i _ hi=>by omega⟩⟩⟩
 ·refine⟨⟨b,o,true,es,0,false,F⟩,rfl,fun _=>hF b h3,fun ρ k s' hk hs=> ?_,fun X F'=>⟨rfl,fun ρ w' hz hw=>⟨rfl,(fun h=>by cases h),(fun h=>by cases h),fun _ _=>hz b h3,fun i _ hi j hj=> ?_⟩⟩⟩
  ·have hb:s'.blk=b:=hs.blk
   have:=VR.sliceI (ρ:=ρ) k 0 s' n c c' o hk h2 (fun _=>h0) (fun h=>by rw[hs.ex]at h;cases h) (hs.void) (.inl (by rw[hs.base];simp))
   rw[hb]at this
   exact this
  ·obtain⟨z,z1,z2,z3⟩:=h4 i hi j hj
   have hw:=hw.of (fun _ h=>h)
   exact⟨z,(hw.cell (p:=⟨b,o+i*es+j,none⟩) (hF b h3)).trans z1,z2,z3.kept hz (fun b hb=>by obtain⟨_,_,_,_,hh⟩:=hw;exact hh b (hF b hb))⟩
theorem law_args{P:Program}{C:Told}{fuel n:Nat}(hm:P.follows .mixedOrders=true)(hC:ToldS P C){un:Nat→Nat}{lvs:Nat→List Nat}{ex:Nat→Kt→Prop}{g:FuncId}{args:List Value}{args':Array Value}{X:List Spot}{objs:List AObj}{F:Nat→Prop}{K:AE→ASt→Prop}(w:World)
  (hlen:X.length=objs.length) (hobj: ∀(k:Nat) (s:Spot) (o:AObj),X[k]? =some s→objs[k]? =some o→ExtOk ⟨w.heap.size,w,X,F,noW⟩ s o) (hblk: ∀s∈X,s.void=false→s.blk<w.heap.size) (hfz: ∀s∈X,∀b,s.fz b→F b) (hF:FOk w F) (hv:VRL (fun i=>X[i]?) args args'.toList)
  (h:lawE P C fuel n ⟨w.heap.size,w,X,F,noW⟩ un (cnOf X.length lvs) ex g args (mkS (objs.map some)) K):
  Calls P g args' w (PostE ⟨w.heap.size,w,X,F,noW⟩ K):=by
 have hget: ∀k o,(mkS (objs.map some)).h.get k=some o→objs[k]? =some o:=by
  intro k o e
  rw[mkS_get,List.getElem?_map]at e
  cases hq:objs[k]? with
  |none=>rw[hq]at e;cases e
  |some u=>rw[hq]at e;cases e;rfl
 have hX: ∀k o,objs[k]? =some o→ ∃s,X[k]? =some s:=fun k o e=>by
  have h1:=(List.getElem?_eq_some_iff.1 e).1
  exact⟨X[k]'(by omega),List.getElem?_eq_getElem (by omega)⟩
 have hro: ∀k o,(mkS (objs.map some)).h.get k=some o→o.isOwn=false:=fun k o e=>by
  obtain⟨s,hs⟩:=hX k o (hget k o e)
  exact(hobj k s o hs (hget k o e)).1
 have hnown: ∀b,¬Own (mkS (objs.map some)).h.get (fun i=>X[i]?) b:=fun b ⟨a,o,t,e1,e2,_⟩=>by rw[hro a o e1]at e2;cases e2
 have hFr: ∀b,Frz (fun i=>X[i]?) b→F b:=fun b ⟨a,s,e1,e2⟩=>hfz s (List.mem_of_getElem? e1) b e2
 refine lawE_post (ρ:=fun i=>X[i]?) (X:=X) hm hC rfl (fun i t e=>⟨t,e,SameSpot.refl t⟩) hv ⟨fun a t e hvd=> ?_,fun a o e=> ?_,fun a b oa ob sa sb ea eb eo ra rb va vb heq=> ?_,fun b hb=>⟨hF.lt b (hFr b hb),hnown b⟩,fun b hb=>⟨(hF.gl b hb).1,(hF.gl b hb).2,hnown b⟩⟩ (fun k o e=> ?_) (fun a ha=> ?_) (fun b hb'=> ?_) hFr h
 ·exact hblk t (List.mem_of_getElem? e) hvd
 ·obtain⟨s,hs⟩:=hX a o (hget a o e)
  exact⟨s,hs,(hobj a s o hs (hget a o e)).2 _ w (fun b hb=>⟨a,s,hs,hb⟩) (BelowW.refl _ _ _ _ _)⟩
 ·rcases eo with eo|eo
  ·rw[hro a oa ea]at eo;cases eo
  ·rw[hro b ob eb]at eo;cases eo
 ·have:=(List.getElem?_eq_some_iff.1 (hget k o e)).1
  simpa [mkS]using this
 ·have:objs.length≤a:=by simpa [mkS]using ha
  exact List.getElem?_eq_none (by omega)
 ·obtain⟨a,o,t,e,e0,_⟩:=hb'
  rw[hro a o e]at e0;cases e0
def trueE(r:AE)(_:ASt):Prop:=match r with
 | .returned (.bool b)=>need b True
 |_=>False
theorem PostE.true{β:Bs}(hW: ∀b,¬β.W b){e:Ending}{w':World}(h:PostE β trueE e w'):e= .returned (.bool true)∧Below β.B β.w0 w':=by
 obtain⟨⟨r,st',ρ',h1,h2,_⟩,h3⟩:=h
 refine⟨?_,h3.of hW⟩
 unfold trueE at h2
 split at h2
 ·rename_i b
  obtain⟨hb,_⟩:=need_elim h2
  subst hb
  obtain⟨v',rfl,hv⟩:=h1
  cases hv;rfl
 ·exact h2.elim
theorem w64{x:Int}(h1: -9223372036854775808≤x)(h2:x<9223372036854775808):IntKind.wrap .i64 x=x:=by
 unfold IntKind.wrap
 simp[IntKind.signed,IntKind.bits]
 split<;>omega
theorem LoopJ.seen{P:Program}{β:Bs}{ex:Nat→Kt→Prop}{b:Nat}{c:Code}{f f1:AFr}{st st1:ASt}(hs:Seen β f st f1 st1)(h:LoopJ P β ex b c f1 st1):LoopJ P β ex b c f st:=⟨fun K hK=>J.seen hs (h.ok K hK)⟩
theorem Seen.trans{β:Bs}{f f1 f2:AFr}{st st1 st2:ASt}(h:Seen β f st f1 st1)(k:Seen β f1 st1 f2 st2):Seen β f st f2 st2:=fun ρ a w hr=>by
 obtain⟨ρ1,h1⟩:=h ρ a w hr
 exact k ρ1 a w h1
def Nn(β:Bs){α:Type}(I:α→Prop)(m:α→Nat)(F:α→AFr)(S:α→ASt)(p:α)(K:Kt):Kt:=fun x f st=>
 (x= .normal∧ ∃p',I p'∧m p'<m p∧Seen β f st (F p') (S p'))∨(x≠ .normal∧(∀v,x≠ .panic v)∧ ∃f1 st1,Seen β f st f1 st1∧K x f1 st1)
theorem Nn.next{β:Bs}{α:Type}{I:α→Prop}{m:α→Nat}{F:α→AFr}{S:α→ASt}{p:α}{K:Kt}{f:AFr}{st:ASt}(p':α)(h:I p')(hm:m p'<m p)(hs:Seen β f st (F p') (S p')):Nn β I m F S p K .normal f st:= .inl ⟨rfl,p',h,hm,hs⟩
theorem Nn.exit{β:Bs}{α:Type}{I:α→Prop}{m:α→Nat}{F:α→AFr}{S:α→ASt}{p:α}{K:Kt}{b:Nat}{f f1:AFr}{st st1:ASt}(hs:Seen β f st f1 st1)(h:K (.exit b) f1 st1):Nn β I m F S p K (.exit b) f st:= .inr ⟨by simp,by simp,f1,st1,hs,h⟩
theorem Nn.ret{β:Bs}{α:Type}{I:α→Prop}{m:α→Nat}{F:α→AFr}{S:α→ASt}{p:α}{K:Kt}{f f1:AFr}{st st1:ASt}(hs:Seen β f st f1 st1)(h:K .ret f1 st1):Nn β I m F S p K .ret f st:= .inr ⟨by simp,by simp,f1,st1,hs,h⟩
end Go.Proofs.YtibobihgolfplaaGreatDoor.Ev
end
section
namespace Go.Proofs.YtibobihgolfplaaGreatDoor.Ev
open Go Go.RowKit
inductive Ta where
 |cell (t:Td)
 |agg (ts:List Td)
inductive Ra where
 |sc (x:Value)
 |own (es n c:Nat) (e:Nat→Nat→Td)
 |still (es n c:Nat) (e:Nat→Nat→Td)
inductive Rv where
 |cell (r:Ra)
 |agg (rs:List Ra)
inductive Ans where
 |ret (r:Rv)
 |rets (rs:List Rv)
 |pan (v:Value)
def PW{α β:Type}(R:α→β→Prop)(l:List α)(m:List β):Prop:=l.length=m.length∧ ∀(i:Nat) a b,l[i]? =some a→m[i]? =some b→R a b
theorem PW.nil{α β:Type}(R:α→β→Prop):PW R [] []:=⟨rfl,fun i a b h=>by simp at h⟩
theorem PW.cons{α β:Type}{R:α→β→Prop}{a:α}{b:β}{l:List α}{m:List β}(h:R a b)(k:PW R l m):PW R (a::l) (b::m):=by
 refine⟨by simp[k.1],fun i x y hx hy=> ?_⟩
 cases i with
 |zero=>simp at hx hy;subst hx hy;exact h
 |succ i=>exact k.2 i x y (by simpa using hx) (by simpa using hy)
theorem PW.uncons{α β:Type}{R:α→β→Prop}{a:α}{l:List α}{m:List β}(h:PW R (a::l) m): ∃b m',m=b::m'∧R a b∧PW R l m':=by
 cases m with
 |nil=>have:=h.1;simp at this
 |cons b m=>exact⟨b,m,rfl,h.2 0 a b (by simp) (by simp),⟨by have:=h.1;simpa using this,fun i x y hx hy=>h.2 (i+1) x y (by simpa using hx) (by simpa using hy)⟩⟩
theorem PW.nil_inv{α β:Type}{R:α→β→Prop}{m:List β}(h:PW R [] m):m=[]:=List.eq_nil_of_length_eq_zero h.1.symm
theorem PW.mono{α β:Type}{R R':α→β→Prop}(hR: ∀a b,R a b→R' a b){l:List α}{m:List β}(h:PW R l m):PW R' l m:=⟨h.1,fun i a b x y=>hR a b (h.2 i a b x y)⟩
def TRo(w:World)(F:Nat→Prop):Td→Value→Prop
 | .sc x,y=>VR noRho x y
 | .fr es n c e,y=>(n=0∧c=1∧y= .slice none 0 0)∨(n=0∧c=0∧ ∃a c',y= .slice (some a) 0 c')∨
   (0<n∧ ∃b o c',y= .slice (some ⟨b,o,none⟩) n c'∧n≤c'∧b<w.heap.size∧ ∀i,i<n→ ∀j,j<es→ ∃z,w.cell? ⟨b,o+i*es+j,none⟩=some z∧z.oneCell'=true∧TR w F (e i j) z)
theorem TRo.mono{w:World}{F F':Nat→Prop}(hF: ∀b,F b→F' b){t:Td}{y:Value}(h:TRo w F t y):TRo w F' t y:=by
 cases t with
 |sc x=>exact h
 |fr es n c e=>
  rcases h with h|h|⟨h0,b,o,c',h1,h2,h3,h4⟩
  ·exact .inl h
  ·exact .inr (.inl h)
  ·refine .inr (.inr ⟨h0,b,o,c',h1,h2,h3,fun i hi j hj=> ?_⟩)
   obtain⟨z,z1,z2,z3⟩:=h4 i hi j hj
   exact⟨z,z1,z2,z3.kept hF (fun _ _=>rfl)⟩
def TaR(w:World)(F:Nat→Prop):Ta→Value→Prop
 | .cell t,y=>TRo w F t y
 | .agg ts,y=> ∃a:Array Value,y= .agg a∧PW (TRo w F) ts a.toList
theorem TaR.mono{w:World}{F F':Nat→Prop}(hF: ∀b,F b→F' b){t:Ta}{y:Value}(h:TaR w F t y):TaR w F' t y:=by
 cases t with
 |cell t=>exact TRo.mono hF h
 |agg ts=>obtain⟨a,h1,h2⟩:=h;exact⟨a,h1,h2.mono fun _ _=>TRo.mono hF⟩
def ASt.skip(st:ASt):ASt:=⟨st.next+1,st.h,st.lo⟩
structure Had (F:Nat→Prop) (ρ ρ1:Rho) (g g1:Mem) (n n1:Nat) (w w':World) (l:List Nat):Prop where
 mv:Mv ρ ρ1 g g1 n n1 w w'
 fz: ∀b,F b→Frz ρ1 b
 fzi: ∀b,Frz ρ1 b→b<w.heap.size∨F b
 at_: ∀a oa sa,g1 a=some oa→ρ1 a=some sa→sa.void=false→sa.blk<w.heap.size∨Frz ρ1 sa.blk∨sa.blk∈l
 gl: ∀b∈glB,b<w.heap.size
def lay1(t:Td)(k:Nat):Value×List AObj:=match t with
 | .sc x=>(x,[])
 | .fr es n c e=>(.slice (some ⟨k,0,some 0⟩) n c,[.row .look es 0 n e])
def lays:List Td→Nat→List Value×List AObj
 |[],_=>([],[])
 |t::l,k=>((lay1 t k).1::(lays l (k+(lay1 t k).2.length)).1,(lay1 t k).2++(lays l (k+(lay1 t k).2.length)).2)
structure LayR (w:World) (F:Nat→Prop) (objs:List AObj) (S:List Spot):Prop where
 len:S.length=objs.length
 ok: ∀(i:Nat) (s:Spot) (o:AObj),S[i]? =some s→objs[i]? =some o→(∀X F',ExtOk ⟨w.heap.size,w,X,F',noW⟩ s o)∧(s.void=false→s.blk<w.heap.size)∧s.fz=F
theorem LayR.nil(w:World)(F:Nat→Prop):LayR w F [] []:=⟨rfl,fun i s o h=>by simp at h⟩
theorem LayR.app{w:World}{F:Nat→Prop}{o1 o2:List AObj}{S1 S2:List Spot}(h:LayR w F o1 S1)(k:LayR w F o2 S2):LayR w F (o1++o2) (S1++S2):=by
 refine⟨by simp[h.len,k.len],fun i s o hs ho=> ?_⟩
 rcases Nat.lt_or_ge i S1.length with hi|hi
 ·rw[List.getElem?_append_left hi]at hs
  rw[List.getElem?_append_left (by have:=h.len;omega)]at ho
  exact h.ok i s o hs ho
 ·rw[List.getElem?_append_right hi]at hs
  rw[List.getElem?_append_right (by have:=h.len;omega),←h.len]at ho
  exact k.ok _ s o hs ho
def At(X S:List Spot)(k:Nat):Prop:= ∀(i:Nat) (s:Spot),S[i]? =some s→X[k+i]? =some s
theorem At.app{X S1 S2:List Spot}{k:Nat}(h:At X (S1++S2) k):At X S1 k∧At X S2 (k+S1.length):=by
 refine⟨fun i s hs=>h i s ?_,fun i s hs=> ?_⟩
 ·rw[List.getElem?_append_left ((List.getElem?_eq_some_iff.1 hs).1)];exact hs
 ·have:=h (S1.length+i) s (by rw[List.getElem?_append_right (by omega)];rw[show S1.length+i-S1.length=i by omega];exact hs)
  rw[←Nat.add_assoc]at this
  exact this
def Blks(ρ:Rho)(g:Mem)(l lb:List Nat):Prop:= ∀b∈lb,∃a∈l,∃o s,g a=some o∧o.isOwn=true∧ρ a=some s∧s.void=false∧s.blk=b
theorem Blks.nil(ρ:Rho)(g:Mem)(l:List Nat):Blks ρ g l []:=fun b h=>by simp at h
theorem Blks.app{ρ:Rho}{g:Mem}{l1 l2 b1 b2:List Nat}(h1:Blks ρ g l1 b1)(h2:Blks ρ g l2 b2):Blks ρ g (l1++l2) (b1++b2):=fun b hb=>by
 rcases List.mem_append.1 hb with hb|hb
 ·obtain⟨a,ha,h⟩:=h1 b hb;exact⟨a,List.mem_append_left _ ha,h⟩
 ·obtain⟨a,ha,h⟩:=h2 b hb;exact⟨a,List.mem_append_right _ ha,h⟩
section
variable {ρ:Rho} {st:ASt} {w w':World}
end
end Go.Proofs.YtibobihgolfplaaGreatDoor.Ev
end
section
namespace Go.Proofs.YtibobihgolfplaaGreatDoor.Ev
open Go Go.RowKit
class Enc (α:Type) where
 es:Nat
 enc:α→Nat→Td
 dec:(Nat→Td)→α
 ok:(Nat→Td)→Bool
 dflt:α
 good:(Nat→Td)→Prop
 okgood: ∀c,ok c=true→good c
 law: ∀(c:Nat→Td),good c→ ∀(w:World) F j y,j<es→TR w F (c j) y→TR w F (enc (dec c) j) y
 back: ∀a,dec (enc a)=a
 mrg: ∀(a b:α) (w:World) F j y,j<es→(TR w F (mrgT true (enc a j) (enc b j)) y→TR w F (enc a j) y)∧(TR w F (mrgT false (enc a j) (enc b j)) y→TR w F (enc b j) y)
def encL{α:Type}[Enc α](l:List α)(i j:Nat):Td:=Enc.enc (l.getD i Enc.dflt) j
def decL{α:Type}[Enc α](n:Nat)(e:Nat→Nat→Td):List α:=(List.range n).map fun i=>Enc.dec (e i)
def tdL{α:Type}[Enc α](l:List α)(c:Nat):Td:= .fr (Enc.es α) l.length c (encL l)
def listT(α:Type)[Enc α](t:Td):List α:=match t with
 | .fr _ n _ e=>decL n e
 |_=>[]
def nilT(t:Td):Nat:=match t with
 | .fr _ _ c _=>c
 |_=>0
def okA(α:Type)[Enc α](a:α):Bool:=Enc.ok α (Enc.enc a)
theorem decL_len{α:Type}[Enc α](n:Nat)(e:Nat→Nat→Td):(decL n e:List α).length=n:=by simp[decL]
theorem decL_get{α:Type}[Enc α]{n:Nat}{e:Nat→Nat→Td}{i:Nat}(h:i<n):(decL n e:List α).getD i Enc.dflt=Enc.dec (e i):=by
 simp[decL,List.getD,List.getElem?_map,List.getElem?_range h]
theorem TRo.congr{w:World}{F:Nat→Prop}{es n c:Nat}{e e':Nat→Nat→Td}{y:Value}(he: ∀i,i<n→ ∀j,j<es→ ∀z,TR w F (e i j) z→TR w F (e' i j) z)(h:TRo w F (.fr es n c e) y):TRo w F (.fr es n c e') y:=by
 rcases h with h|h|⟨h0,b,o,c',h1,h2,h3,h4⟩
 ·exact .inl h
 ·exact .inr (.inl h)
 ·refine .inr (.inr ⟨h0,b,o,c',h1,h2,h3,fun i hi j hj=> ?_⟩)
  obtain⟨z,z1,z2,z3⟩:=h4 i hi j hj
  exact⟨z,z1,z2,he i hi j hj z z3⟩
theorem TR.congr{w:World}{F:Nat→Prop}{es n c:Nat}{e e':Nat→Nat→Td}{y:Value}(he: ∀i,i<n→ ∀j,j<es→ ∀z,TR w F (e i j) z→TR w F (e' i j) z)(h:TR w F (.fr es n c e) y):TR w F (.fr es n c e') y:=by
 rcases h with h|h|⟨h0,b,o,c',h1,h2,h3,h4⟩
 ·exact .inl h
 ·exact .inr (.inl h)
 ·refine .inr (.inr ⟨h0,b,o,c',h1,h2,h3,fun i hi j hj=> ?_⟩)
  obtain⟨z,z1,z2,z3⟩:=h4 i hi j hj
  exact⟨z,z1,z2,he i hi j hj z z3⟩
def goodT(α:Type)[Enc α](t:Td):Prop:=match t with
 | .fr es n c e=>(es=Enc.es α∧(∀i,i<n→Enc.good α (e i))∧c≤1)∨(n=0∧c=1)
 |_=>False
theorem goodT_TR{α:Type}[Enc α]{t:Td}(h:goodT α t){w:World}{F:Nat→Prop}{y:Value}(ht:TR w F t y):TR w F (tdL (listT α t) (nilT t)) y:=by
 cases t with
 |sc x=>exact h.elim
 |fr es n c e=>
  show TR w F (.fr (Enc.es α) (decL n e:List α).length c (encL (decL n e:List α))) y
  rw[decL_len]
  rcases h with⟨rfl,h2,h3⟩|⟨rfl,rfl⟩
  ·refine ht.congr fun i hi j hj z hz=> ?_
   unfold encL
   rw[decL_get hi]
   exact Enc.law _ (h2 i hi) w F j z hj hz
  ·rcases ht with ht|ht|ht
   ·exact .inl ht
   ·exact absurd ht.2.1 (by simp)
   ·exact absurd ht.1 (by simp)
theorem goodT_of{α:Type}[Enc α]{sh:Nat→Sh}{n cc:Nat}{el:Nat→Nat→Td}(hs: ∀c:Nat→Td,(∀j,j<Enc.es α→ShOk (sh j) (c j))→Enc.good α c)(h:ShOk (.sl (Enc.es α) sh) (.fr (Enc.es α) n cc el)):goodT α (.fr (Enc.es α) n cc el):= .inl ⟨rfl,fun i hi=>hs _ fun j hj=>h.2.2.2 i hi j hj,h.2.1⟩
theorem goodT_all{α:Type}[Enc α]{p:α→Prop}(hp: ∀c,Enc.good α c→p (Enc.dec c)){t:Td}(h:goodT α t): ∀a∈(listT α t),p a:=by
 cases t with
 |sc x=>exact h.elim
 |fr es n c e=>
  intro a ha
  obtain⟨i,hi,rfl⟩:=List.mem_map.1 (show a∈(decL n e:List α)from ha)
  have hi:=List.mem_range.1 hi
  rcases h with⟨_,h2,_⟩|⟨rfl,rfl⟩
  ·exact hp _ (h2 i hi)
  ·omega
theorem Seen.two{β:Bs}{f:AFr}{a b a' b':AObj}(ha:a.isOwn=a'.isOwn)(hb:b.isOwn=b'.isOwn)(h1: ∀ρ s w,ObjR ρ a s w→ObjR ρ a' s w)(h2: ∀ρ s w,ObjR ρ b s w→ObjR ρ b' s w):Seen β f (mkS [some a,some b]) f (mkS [some a',some b']):=
 Seen.objs rfl fun i o2 h=>match i with
  |0=>by cases h;exact⟨a,rfl,ha,h1⟩
  |1=>by cases h;exact⟨b,rfl,hb,h2⟩
  |_+2=>by cases h
theorem Seen.three{β:Bs}{f:AFr}{a b c a' b' c':AObj}(ha:a.isOwn=a'.isOwn)(hb:b.isOwn=b'.isOwn)(hc:c.isOwn=c'.isOwn)(h1: ∀ρ s w,ObjR ρ a s w→ObjR ρ a' s w)(h2: ∀ρ s w,ObjR ρ b s w→ObjR ρ b' s w)(h3: ∀ρ s w,ObjR ρ c s w→ObjR ρ c' s w):Seen β f (mkS [some a,some b,some c]) f (mkS [some a',some b',some c']):=
 Seen.objs rfl fun i o2 h=>match i with
  |0=>by cases h;exact⟨a,rfl,ha,h1⟩
  |1=>by cases h;exact⟨b,rfl,hb,h2⟩
  |2=>by cases h;exact⟨c,rfl,hc,h3⟩
  |_+3=>by cases h
def top1(t:Td)(k:Nat):Value×List AObj:=match t with
 | .sc x=>(x,[])
 | .fr es n c e=>(.slice (some ⟨k,0,some 0⟩) n c,[.row .still es 0 n e])
def tops:List Td→Nat→List Value×List AObj
 |[],_=>([],[])
 |t::l,k=>((top1 t k).1::(tops l (k+(top1 t k).2.length)).1,(top1 t k).2++(tops l (k+(top1 t k).2.length)).2)
theorem top1_rel{w:World}{F:Nat→Prop}(hF: ∀b,F b→b<w.heap.size){t:Td}{y:Value}(h:TR w F t y): ∃S,(∀k,LayR w F (top1 t k).2 S)∧ ∀X k,At X S k→VR (fun i=>X[i]?) (top1 t k).1 y:=by
 cases t with
 |sc x=>exact⟨[],fun k=>LayR.nil w F,fun X k _=>VR.mono (noRho_sub _) h⟩
 |fr es n c e=>
  obtain⟨s,h1,h2,h3,h4⟩:=arg_spot h hF
  refine⟨[s],fun k=>⟨rfl,fun i s' o hs ho=> ?_⟩,fun X k hX=>h3 _ k s (hX 0 s rfl) (SameSpot.refl s)⟩
  cases i with
  |zero=>cases hs;cases ho;exact⟨h4,h2,h1⟩
  |succ i=>cases hs
theorem tops_rel{w:World}{F:Nat→Prop}(hF: ∀b,F b→b<w.heap.size): ∀{ts:List Td} {ys:List Value},PW (TR w F) ts ys→ ∃S,(∀k,LayR w F (tops ts k).2 S)∧ ∀X k,At X S k→VRL (fun i=>X[i]?) (tops ts k).1 ys:=by
 intro ts
 induction ts with
 |nil=>intro ys h;have:=h.nil_inv;subst this;exact⟨[],fun k=>LayR.nil w F,fun X k _=>VRL.nil _⟩
 |cons t ts ih=>
  intro ys h
  obtain⟨y,m,rfl,hy,hm⟩:=h.uncons
  obtain⟨S1,a1,a2⟩:=top1_rel hF hy
  obtain⟨S2,b1,b2⟩:=ih hm
  refine⟨S1++S2,fun k=>(a1 k).app (b1 _),fun X k hX=> ?_⟩
  obtain⟨h1,h2⟩:=hX.app
  rw[(a1 k).len]at h2
  exact VRL.cons (a2 X k h1) (b2 X _ h2)
theorem law_top{P:Program}{C:Told}{fuel n:Nat}{un:Nat→Nat}{lvs:Nat→List Nat}{ex:Nat→Kt→Prop}{g:FuncId}{ts:List Td}(hm:P.follows .mixedOrders=true)(hC:ToldS P C)
  (h: ∀β:Bs,β.X.length=(tops ts 0).2.length→lawE P C fuel n β un (cnOf (tops ts 0).2.length lvs) ex g (tops ts 0).1 (mkS ((tops ts 0).2.map some)) trueE) (w:World) (args':Array Value) (ha:PW (TR w (There w)) ts args'.toList) (hgl:GlA w:=by first|assumption|exact fun b hb=>by cases hb):
  Calls P g args' w fun e w'=>e= .returned (.bool true)∧Below w.heap.size w w':=by
 obtain⟨S,s1,s2⟩:=tops_rel (F:=There w) (fun b hb=>hb) ha
 have hlen:=(s1 0).len
 have hv:=s2 S 0 (fun i s hs=>by rw[Nat.zero_add];exact hs)
 have hl':=h ⟨w.heap.size,w,S,There w,noW⟩ hlen
 rw[←hlen]at hl'
 refine(law_args (F:=There w) hm hC w hlen (fun k s o h1 h2=>((s1 0).ok k s o h1 h2).1 _ _) (fun s hs hvd=> ?_) (fun s hs b hb=> ?_) ⟨fun b hb=>hb,hgl⟩ hv hl').mono fun e w' he=>he.true (fun _ h=>h)
 ·obtain⟨i,hi⟩:=List.getElem?_of_mem hs
  have hil:=(List.getElem?_eq_some_iff.1 hi).1
  exact((s1 0).ok i s _ hi (List.getElem?_eq_getElem (by omega))).2.1 hvd
 ·obtain⟨i,hi⟩:=List.getElem?_of_mem hs
  have hil:=(List.getElem?_eq_some_iff.1 hi).1
  have:=((s1 0).ok i s _ hi (List.getElem?_eq_getElem (by omega))).2.2
  rw[this]at hb;exact hb
theorem typed_arg{H:Type}{enc:TypeId×Value→H}{P:Program}{w:World}{t:TypeId}{v:Value}{d:DataW H}{ps:List MemPlace}{b0:Nat}{α:Type}[Enc α]{sh:Nat→Sh}{e:TypeId}(hs: ∀c:Nat→Td,(∀j,j<Enc.es α→ShOk (sh j) (c j))→Enc.good α c)(ht:P.underlying t=some (.slice e))(hl:flatB P 9 t [.sl (Enc.es α) sh]=true)
  (hv:Value.okWide P w .any b0 t v) (h:DataW.Trod enc P w 0 (fun _=>true) true t v d ps): ∃u:Td,goodT α u∧TR w (There w) (tdL (listT α u) (nilT u)) v:=by
 obtain⟨n,cc,el,h1,h2⟩:=row_of_trod ht hl hv h
 have hg:=goodT_of hs h2
 exact⟨_,hg,goodT_TR hg h1⟩
end Go.Proofs.YtibobihgolfplaaGreatDoor.Ev
end
section
namespace Go.Proofs.YtibobihgolfplaaGreatDoor.Ev
open Go Go.Proofs Go.RowKit
structure U8 where
 v:Int
def u8E(a:U8)(_:Nat):Td:= .sc (.int .u8 a.v)
def u8D(c:Nat→Td):U8:=match c 0 with
 | .sc (.int .u8 a)=>⟨a⟩
 |_=>⟨0⟩
def u8Ok(c:Nat→Td):Bool:=match c 0 with
 | .sc (.int .u8 a)=>decide (0≤a)&&decide (a<256)
 |_=>false
theorem u8Ok_inv{c:Nat→Td}(h:u8Ok c=true):c 0= .sc (.int .u8 (u8D c).v)∧0≤(u8D c).v∧(u8D c).v<256:=by
 unfold u8Ok at h
 split at h
 ·rename_i a h0
  simp only[Bool.and_eq_true,decide_eq_true_eq]at h
  simp only[u8D,h0]
  exact⟨trivial,h.1,h.2⟩
 ·cases h
instance encU:Enc U8 where
 es:=1
 enc:=u8E
 dec:=u8D
 ok:=u8Ok
 dflt:=⟨0⟩
 good c:=u8Ok c=true
 okgood c h:=h
 law c h w F j y hj ht:=by
  have:j=0:=by omega
  subst this
  rw[(u8Ok_inv h).1]at ht
  exact ht
 back a:=rfl
 mrg a b w F j y hj:=⟨fun h=>h,fun h=>h⟩
def okU(b:U8):Bool:=decide (0≤b.v)&&decide (b.v<256)
theorem okA_u8(a:U8):okA U8 a=okU a:=rfl
theorem okU_iff(a:U8):okA U8 a=true↔0≤a.v∧a.v<256:=by
 rw[okA_u8];simp[okU]
def shU(_:Nat):Sh:= .int .u8
theorem goodU(c:Nat→Td)(h: ∀j,j<1→ShOk (shU j) (c j)):Enc.good U8 c:=by
 have h0:=h 0 (by omega)
 show u8Ok c=true
 unfold u8Ok
 revert h0
 cases c 0 with
 |fr=>intro h;exact h.elim
 |sc x=>
  cases x with
  |int k n=>
   intro h
   obtain⟨rfl,hw⟩:=h
   simp[Lit.wf,IntKind.min,IntKind.max,IntKind.signed,IntKind.bits]at hw
   show(decide (0≤n)&&decide (n<256))=true
   simp;omega
  |_=>intro h;exact h.elim
theorem goodU_all{t:Td}(h:goodT U8 t):(listT U8 t).all (okA U8)=true:=by
 rw[List.all_eq_true]
 refine goodT_all (p:=fun b=>okA U8 b=true) (fun c hc=> ?_) h
 have:=u8Ok_inv hc
 exact(okU_iff _).2 this.2
end Go.Proofs.YtibobihgolfplaaGreatDoor.Ev
end
