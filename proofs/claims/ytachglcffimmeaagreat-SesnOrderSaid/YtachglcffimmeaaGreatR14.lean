/-
  Data that came in, read as trees; a law over such data.
-/
import Derived.Test.YtachglcffimmeaaGreatR13
import Derived.Deep.Slices
import Derived.WideShapes
set_option linter.unusedVariables false
set_option linter.unusedSimpArgs false
namespace Go.Proofs.YtachglcffimmeaaGreat.Ev
open Go Go.RowKit
inductive Sh where
 |bool
 |int (k:IntKind)
 |flt (k:FloatKind)
 |str
 |sl (es:Nat) (c:Nat→Sh)
def ShOk:Sh→Td→Prop
 | .bool,.sc (.bool _)=>True
 | .int k,.sc (.int k' n)=>k'=k∧(Lit.int k n).wf=true
 | .flt k,.sc (.float k' b)=>k'=k∧(Lit.float k b).wf=true
 | .str,.sc (.string s)=>s.size≤maxLen
 | .sl es c,.fr es' n cc e=>es'=es∧cc≤1∧n≤maxLen∧ ∀i,i<n→ ∀j,j<es→ShOk (c j) (e i j)
 |_,_=>False
def ShTL(l:List Sh)(ts:List Td):Prop:=l.length=ts.length∧ ∀(j:Nat) s t,l[j]? =some s→ts[j]? =some t→ShOk s t
theorem ShTL.nil:ShTL [] []:=⟨rfl,fun j s t h=>by simp at h⟩
theorem ShTL.one{s:Sh}{t:Td}(h:ShOk s t):ShTL [s] [t]:=⟨rfl,fun j s' t' h1 h2=>by
 cases j with
 |zero=>simp at h1 h2;subst h1 h2;exact h
 |succ j=>simp at h1⟩
theorem ShTL.app{l l':List Sh}{m m':List Td}(h:ShTL l m)(k:ShTL l' m'):ShTL (l++l') (m++m'):=by
 refine⟨by simp[h.1,k.1],fun j s t hs ht=> ?_⟩
 rcases Nat.lt_or_ge j l.length with hj|hj
 ·rw[List.getElem?_append_left hj]at hs
  rw[List.getElem?_append_left (by have:=h.1;omega)]at ht
  exact h.2 j s t hs ht
 ·rw[List.getElem?_append_right hj]at hs
  rw[List.getElem?_append_right (by have:=h.1;omega),←h.1]at ht
  exact k.2 _ s t hs ht
theorem TRL.app{w:World}{F:Nat→Prop}{l l':List Td}{m m':List Value}(h:TRL w F l m)(k:TRL w F l' m'):TRL w F (l++l') (m++m'):=by
 refine⟨by simp[h.1,k.1],fun j s t hs ht=> ?_⟩
 rcases Nat.lt_or_ge j l.length with hj|hj
 ·rw[List.getElem?_append_left hj]at hs
  rw[List.getElem?_append_left (by have:=h.1;omega)]at ht
  exact h.2 j s t hs ht
 ·rw[List.getElem?_append_right hj]at hs
  rw[List.getElem?_append_right (by have:=h.1;omega),←h.1]at ht
  exact k.2 _ s t hs ht
theorem TRL.one{w:World}{F:Nat→Prop}{t:Td}{y:Value}(h:TR w F t y):TRL w F [t] [y]:=TRL.cons h (TRL.nil w F)
def fieldsB(P:Program)(fl:TypeId→List Sh→Bool):List Field→Nat→List Sh→Bool
 |[],_,[]=>true
 |f::fs,off,l=>Nat.beq f.offset off&&fl f.type (l.take (P.cellsOf f.type))&&Nat.ble (P.cellsOf f.type) l.length&&fieldsB P fl fs (off+P.cellsOf f.type) (l.drop (P.cellsOf f.type))
 |[],_,_::_=>false
def elemsB(P:Program)(fl:List Sh→Bool)(c:Nat):Nat→List Sh→Bool
 |0,[]=>true
 |n+1,l=>fl (l.take c)&&Nat.ble c l.length&&elemsB P fl c n (l.drop c)
 |0,_::_=>false
def flatB(P:Program):Nat→TypeId→List Sh→Bool
 |0,_,_=>false
 |n+1,t,l=>match P.underlying t with
  |some .bool=>match l with|[.bool]=>true|_=>false
  |some (.int k)=>match l with|[.int k']=>decide (k=k')|_=>false
  |some (.float k)=>match l with|[.flt k']=>decide (k=k')|_=>false
  |some .string=>match l with|[.str]=>true|_=>false
  |some (.slice e)=>match l with|[.sl es c]=>Nat.beq es (P.cellsOf e)&&Nat.blt 0 es&&flatB P n e ((upto 0 es).map c)|_=>false
  |some (.struct fs)=>Nat.beq l.length (P.cellsOf t)&&fieldsB P (flatB P n) fs.toList 0 l
  |some (.array m e)=>Nat.beq l.length (P.cellsOf t)&&elemsB P (flatB P n e) (P.cellsOf e) m l
  |_=>false
theorem amH_{w:World}{a:Addr}{v:Value}(h:w.cell? a=some v):a.block<w.heap.size:=by
 unfold World.cell? at h
 split at h
 ·rename_i hb
  exact(Array.getElem?_eq_some_iff.1 hb).1
 ·cases h
section
variable {H:Type} {enc:TypeId×Value→H} {P:Program} {w:World} {base:Nat} {spare:Nat→Bool} {held:Bool}
theorem Z8_{fuel:Nat}{t:TypeId}{cs:List Value}{x:DataW H×List MemPlace}{k:FloatKind}(ht:P.underlying t=some (.float k))(h:DataW.trod enc P w base spare held fuel t cs=some x): ∃b,cs=[.float k b]∧(Lit.float k b).wf=true:=by
 cases fuel with
 |zero=>simp[DataW.trod]at h
 |succ n=>
  unfold DataW.trod at h
  rw[ht]at h
  split at h<;>simp_all
theorem Z9_{fuel:Nat}{t e:TypeId}{m:Nat}{cs:List Value}{x:DataW H×List MemPlace}(ht:P.underlying t=some (.array m e))(h:DataW.trod enc P w base spare held fuel t cs=some x):
  ∃n,cs.length=P.cellsOf t∧ ∀i,i<m→ ∃y,DataW.trod enc P w base spare held n e ((cs.drop (i*P.cellsOf e)).take (P.cellsOf e))=some y:=by
 cases fuel with
 |zero=>simp[DataW.trod]at h
 |succ n=>
  unfold DataW.trod at h
  rw[ht]at h
  split at h<;>simp_all
  obtain⟨hl,xs,hp,hd⟩:=h
  refine⟨n,fun i hi=> ?_⟩
  have h1:=mapM_some_get hp i i (by simp[hi])
  have h2:=mapM_some_length hp
  have:i<xs.length:=by rw[h2];simpa using hi
  rw[List.getElem?_eq_getElem this]at h1
  exact⟨_,_,h1⟩
def H8_(w:World)(b:Nat):Prop:=b<w.heap.size
def m5_(w:World)(l:List Sh)(cs:List Value):Prop:= ∃ts,TRL w (H8_ w) ts cs∧(∀v∈cs,v.oneCell'=true)∧ShTL l ts
theorem m5_.app{l l':List Sh}{m m':List Value}(h:m5_ w l m)(k:m5_ w l' m'):m5_ w (l++l') (m++m'):=by
 obtain⟨ts,h1,h2,h3⟩:=h
 obtain⟨us,k1,k2,k3⟩:=k
 exact⟨ts++us,h1.app k1,fun v hv=>by rcases List.mem_append.1 hv with hv|hv;exact h2 v hv;exact k2 v hv,h3.app k3⟩
theorem m5_.nil:m5_ w [] []:=⟨[],TRL.nil _ _,fun v hv=>by simp at hv,ShTL.nil⟩
theorem m5_.one{s:Sh}{t:Td}{v:Value}(h:TR w (H8_ w) t v)(h1:v.oneCell'=true)(k:ShOk s t):m5_ w [s] [v]:=⟨[t],TRL.one h,fun u hu=>by simp at hu;subst hu;exact h1,ShTL.one k⟩
theorem amy_: ∀(n:Nat) {fuel:Nat} {t:TypeId} {l:List Sh} {cs:List Value} {x:DataW H×List MemPlace},flatB P n t l=true→DataW.trod enc P w base spare held fuel t cs=some x→m5_ w l cs:=by
 intro n
 induction n with
 |zero=>intro fuel t l cs x h;cases h
 |succ n ih=>
  intro fuel t l cs x h hx
  unfold flatB at h
  split at h
  ·rename_i ht
   split at h
   ·obtain⟨b,rfl,_⟩:=DataW.trod_bool ht hx
    exact m5_.one (t:= .sc (.bool b)) (.bool b) rfl trivial
   ·cases h
  ·rename_i k ht
   split at h
   ·have:=of_decide_eq_true h
    subst this
    obtain⟨b,rfl,_,hw⟩:=DataW.trod_int ht hx
    exact m5_.one (t:= .sc (.int k b)) (.int k b) rfl ⟨rfl,hw⟩
   ·cases h
  ·rename_i k ht
   split at h
   ·have:=of_decide_eq_true h
    subst this
    obtain⟨b,rfl,hw⟩:=Z8_ ht hx
    exact m5_.one (t:= .sc (.float k b)) (.float k b) rfl ⟨rfl,hw⟩
   ·cases h
  ·rename_i ht
   split at h
   ·obtain⟨s,rfl,_,hw⟩:=DataW.trod_string ht hx
    exact m5_.one (t:= .sc (.string s)) (.string s) rfl hw
   ·cases h
  ·rename_i e ht
   split at h
   ·rename_i es c
    simp only[Bool.and_eq_true]at h
    obtain⟨⟨he,hpos⟩,hfl⟩:=h
    have he:=Nat.eq_of_beq_eq_true he
    have hpos:0<es:=by simpa using hpos
    rcases Deep.open_slice ht hx with⟨rfl,_⟩|⟨a,len,cap,m,n',D,Pl,rfl,_,hlc,hm,hmm,_,hcell⟩
    ·exact m5_.one (t:= .fr es 0 1 noT) (.inl ⟨rfl,rfl,rfl⟩) rfl ⟨rfl,Nat.le_refl _,Nat.zero_le _,fun i hi=>by omega⟩
    ·have hlm:len≤m:=by rw[hmm];split<;>omega
     rcases Nat.eq_zero_or_pos len with h0|hpl
     ·subst h0
      exact m5_.one (t:= .fr es 0 0 noT) (.inr (.inl ⟨rfl,rfl,_,_,rfl⟩)) rfl ⟨rfl,Nat.zero_le _,Nat.zero_le _,fun i hi=>by omega⟩
     rw[←he]at hcell
     have hex: ∀i,i<len→ ∃cs' ts,w.cells? base (a.add (i*es)) es=some cs'∧TRL w (H8_ w) ts cs'∧(∀v∈cs',v.oneCell'=true)∧ShTL ((upto 0 es).map c) ts:=fun i hi=>by
      obtain⟨cs',h1,h2⟩:=hcell i (by omega)
      obtain⟨ts,h3,h4,h5⟩:=ih hfl h2
      exact⟨cs',ts,h1,h3,h4,h5⟩
     let E:Nat→List Td:=fun i=>if h:i<len then Classical.choose (Classical.choose_spec (hex i h))else []
     have hE: ∀i,i<len→ ∃cs',w.cells? base (a.add (i*es)) es=some cs'∧TRL w (H8_ w) (E i) cs'∧(∀v∈cs',v.oneCell'=true)∧ShTL ((upto 0 es).map c) (E i):=fun i hi=>by
      have:=Classical.choose_spec (Classical.choose_spec (hex i hi))
      refine⟨Classical.choose (hex i hi),?_⟩
      simp only[E,dif_pos hi]
      exact this
     obtain⟨b,o,sp⟩:=a
     have hspot:sp=none:=by
      obtain⟨cs',h1,_⟩:=hE 0 hpl
      obtain⟨_,h2,h3⟩:=World.cells?_some h1
      have h4:=h3 0 (by omega)
      rw[List.getElem?_eq_getElem (by omega)]at h4
      simpa [Addr.add]using World.cell?_spot h4
     subst hspot
     have hblk:b<w.heap.size:=by
      obtain⟨cs',h1,_⟩:=hE 0 hpl
      obtain⟨_,h2,h3⟩:=World.cells?_some h1
      have h4:=h3 0 (by omega)
      rw[List.getElem?_eq_getElem (by omega)]at h4
      simpa [Addr.add]using amH_ h4
     have hup: ∀j,j<es→((upto 0 es).map c)[j]? =some (c j):=fun j hj=>by
      rw[List.getElem?_map,M3_ es 0 j hj,Nat.zero_add];rfl
     refine m5_.one (t:= .fr es len 0 fun i j=>nthT (E i) j) (.inr (.inr ⟨hpl,b,o,cap,rfl,hlc,hblk,fun i hi j hj=> ?_⟩)) rfl ⟨rfl,Nat.zero_le _,Nat.le_trans hlc hm,fun i hi j hj=> ?_⟩
     ·obtain⟨cs',h1,h5,h6,h7⟩:=hE i hi
      obtain⟨_,h2,h3⟩:=World.cells?_some h1
      have hjc:j<cs'.length:=by omega
      have h4:=h3 j (by omega)
      rw[List.getElem?_eq_getElem hjc]at h4
      have htl:j<(E i).length:=by rw[h5.1];exact hjc
      refine⟨cs'[j],?_,h6 _ (List.getElem_mem hjc),?_⟩
      ·rw[←h4,e5_,e5_]
      ·dsimp only
       rw[m9_ (E i) j _ (List.getElem?_eq_getElem htl)]
       exact h5.2 j _ _ (List.getElem?_eq_getElem htl) (List.getElem?_eq_getElem hjc)
     ·obtain⟨cs',h1,h5,h6,h7⟩:=hE i hi
      have htl:j<(E i).length:=by have:=h7.1;simp[A5_]at this;omega
      dsimp only
      rw[m9_ (E i) j _ (List.getElem?_eq_getElem htl)]
      exact h7.2 j _ _ (hup j hj) (List.getElem?_eq_getElem htl)
   ·cases h
  ·rename_i fs ht
   simp only[Bool.and_eq_true]at h
   obtain⟨xs,m,_,_,hl,hxl,hf⟩:=DataW.trod_struct ht hx
   have hlen:cs.length=l.length:=by rw[hl];exact(Nat.eq_of_beq_eq_true h.1).symm
   have key: ∀(fl:List Field) (k:Nat) (off:Nat) (l:List Sh),(∀i f,fl[i]? =some f→fs[k+i]? =some f)→fieldsB P (flatB P n) fl off l=true→cs.length=off+l.length→m5_ w l (cs.drop off):=by
    intro fl
    induction fl with
    |nil=>
     intro k off l _ h hl
     cases l with
     |nil=>rw[List.drop_eq_nil_of_le (by simp at hl;omega)];exact m5_.nil
     |cons=>cases h
    |cons f fl ihf=>
     intro k off l hfs h hl
     unfold fieldsB at h
     simp only[Bool.and_eq_true]at h
     obtain⟨⟨⟨h1,h2⟩,h3⟩,h4⟩:=h
     have h1:=Nat.eq_of_beq_eq_true h1
     have h3:=Nat.le_of_ble_eq_true h3
     have e1:=hf k f (hfs 0 f rfl)
     have hk:k<xs.length:=by
      have:k<fs.size:=by
       have:=hfs 0 f rfl
       exact(Array.getElem?_eq_some_iff.1 this).1
      omega
     rw[List.getElem?_eq_getElem hk,h1]at e1
     have e2:=ih h2 e1
     have e3:=ihf (k+1) (off+P.cellsOf f.type) (l.drop (P.cellsOf f.type)) (fun i g hg=>by rw[show k+1+i=k+(i+1)by omega];exact hfs (i+1) g (by simpa using hg)) h4 (by rw[List.length_drop];omega)
     have:=e2.app e3
     rw[List.take_append_drop]at this
     rw[←List.drop_drop,List.take_append_drop]at this
     exact this
   have:=key fs.toList 0 0 l (fun i f hf=>by simpa using hf) h.2 (by omega)
   simpa using this
  ·rename_i m e ht
   simp only[Bool.and_eq_true]at h
   obtain⟨q,hl,hf⟩:=Z9_ ht hx
   have hlen:cs.length=l.length:=by rw[hl];exact(Nat.eq_of_beq_eq_true h.1).symm
   have key: ∀(r k:Nat) (l:List Sh),k+r=m→elemsB P (flatB P n e) (P.cellsOf e) r l=true→cs.length=k*P.cellsOf e+l.length→m5_ w l (cs.drop (k*P.cellsOf e)):=by
    intro r
    induction r with
    |zero=>
     intro k l _ h hl
     cases l with
     |nil=>rw[List.drop_eq_nil_of_le (by simp at hl;omega)];exact m5_.nil
     |cons=>cases h
    |succ r ihr=>
     intro k l hk h hl
     unfold elemsB at h
     simp only[Bool.and_eq_true]at h
     obtain⟨⟨h2,h3⟩,h4⟩:=h
     have h3:=Nat.le_of_ble_eq_true h3
     obtain⟨y,e1⟩:=hf k (by omega)
     have e2:=ih h2 e1
     have hm:(k+1)*P.cellsOf e=k*P.cellsOf e+P.cellsOf e:=Nat.succ_mul _ _
     have e3:=ihr (k+1) (l.drop (P.cellsOf e)) (by omega) h4 (by rw[List.length_drop,hm];omega)
     rw[hm]at e3
     have:=e2.app e3
     rw[List.take_append_drop]at this
     rw[←List.drop_drop,List.take_append_drop]at this
     exact this
   have:=key m 0 l (by omega) h.2 (by rw[Nat.zero_mul];omega)
   simpa using this
  ·cases h
end
theorem aam_{H:Type}{enc:TypeId×Value→H}{P:Program}{w:World}{t:TypeId}{v:Value}{d:DataW H}{ps:List MemPlace}{b0 es:Nat}{c:Nat→Sh}{e:TypeId}(ht:P.underlying t=some (.slice e))(hl:flatB P 9 t [.sl es c]=true)
  (hv:Value.okWide P w .any b0 t v) (h:DataW.Trod enc P w 0 (fun _=>true) true t v d ps): ∃n cc el,TR w (H8_ w) (.fr es n cc el) v∧ShOk (.sl es c) (.fr es n cc el):=by
 obtain⟨a,len,cap,rfl⟩:=WideShapes.okWide_slice ht hv
 obtain⟨fuel,hf⟩:=h
 have hcs:(Value.slice a len cap).cells.toList=[.slice a len cap]:=rfl
 rw[hcs]at hf
 obtain⟨ts,h1,h2,h3⟩:=amy_ 9 hl hf
 have hlen:=h3.1
 cases ts with
 |nil=>simp at hlen
 |cons t0 ts=>
  cases ts with
  |cons=>simp at hlen
  |nil=>
   have k1:=h1.2 0 t0 _ rfl rfl
   have k2:=h3.2 0 _ t0 rfl rfl
   cases t0 with
   |sc x=>exact k2.elim
   |fr es' n cc el=>
    obtain⟨rfl,q⟩:=k2
    exact⟨n,cc,el,k1,rfl,q⟩
theorem ajc_{w:World}{es n c:Nat}{e:Nat→Nat→Td}{v:Value}{F:Nat→Prop}(h:TR w F (.fr es n c e) v)(hF: ∀b,F b→b<w.heap.size):
  ∃s:Spot,s.fz=F∧(s.void=false→s.blk<w.heap.size)∧(∀(ρ:Rho) (k:Nat) s',ρ k=some s'→SameSpot s s'→VR ρ (.slice (some ⟨k,0,some 0⟩) n c) v)∧ ∀X F',ahe_ ⟨w.heap.size,w,X,F',noW⟩ s (.row .still es 0 n e):=by
 have hno: ∀{q:Prop},true=false→q:=by intro q h;cases h
 rcases h with⟨rfl,rfl,rfl⟩|⟨rfl,rfl,a,c',rfl⟩|⟨h0,b,o,c',rfl,h2,h3,h4⟩
 ·exact⟨⟨0,0,true,es,0,true,F⟩,rfl,(fun h=>hno h),fun ρ k s' hk hs=> .sliceN _ _,fun X F'=>⟨rfl,fun ρ w' hz hw=>⟨rfl,fun _=>Nat.le_refl _,(fun h=>by cases h),fun _ h=>hno h,fun i _ hi=>by omega⟩⟩⟩
 ·exact⟨⟨0,0,true,es,0,true,F⟩,rfl,(fun h=>hno h),fun ρ k s' hk hs=> .sliceE _ _ _ _ s' hk hs.ex,fun X F'=>⟨rfl,fun ρ w' hz hw=>⟨rfl,fun _=>Nat.le_refl _,(fun h=>by cases h),fun _ h=>hno h,fun i _ hi=>by omega⟩⟩⟩
 ·refine⟨⟨b,o,true,es,0,false,F⟩,rfl,fun _=>hF b h3,fun ρ k s' hk hs=> ?_,fun X F'=>⟨rfl,fun ρ w' hz hw=>⟨rfl,(fun h=>by cases h),(fun h=>by cases h),fun _ _=>hz b h3,fun i _ hi j hj=> ?_⟩⟩⟩
  ·have hb:s'.blk=b:=hs.blk
   have:=VR.sliceI (ρ:=ρ) k 0 s' n c c' o hk h2 (fun _=>h0) (fun h=>by rw[hs.ex]at h;cases h) (hs.void) (.inl (by rw[hs.base];simp))
   rw[hb]at this
   exact this
  ·obtain⟨z,z1,z2,z3⟩:=h4 i hi j hj
   have hw:=hw.of (fun _ h=>h)
   exact⟨z,(hw.cell (p:=⟨b,o+i*es+j,none⟩) (hF b h3)).trans z1,z2,z3.kept hz (fun b hb=>by obtain⟨_,_,_,_,hh⟩:=hw;exact hh b (hF b hb))⟩
theorem B7_{P:Program}{C:Told}{fuel n:Nat}(hm:P.follows .mixedOrders=true)(hC:a8_ P C){un:Nat→Nat}{lvs:Nat→List Nat}{ex:Nat→Kt→Prop}{g:FuncId}{args:List Value}{args':Array Value}{X:List Spot}{objs:List AObj}{F:Nat→Prop}{K:AE→ASt→Prop}(w:World)
  (hlen:X.length=objs.length) (hobj: ∀(k:Nat) (s:Spot) (o:AObj),X[k]? =some s→objs[k]? =some o→ahe_ ⟨w.heap.size,w,X,F,noW⟩ s o) (hblk: ∀s∈X,s.void=false→s.blk<w.heap.size) (hfz: ∀s∈X,∀b,s.fz b→F b) (hF: ∀b,F b→b<w.heap.size) (hv:VRL (fun i=>X[i]?) args args'.toList)
  (h:lawE P C fuel n ⟨w.heap.size,w,X,F,noW⟩ un (cnOf X.length lvs) ex g args (mkS (objs.map some)) K):
  Calls P g args' w (PostE ⟨w.heap.size,w,X,F,noW⟩ K):=by
 have hget: ∀k o,(mkS (objs.map some)).h.get k=some o→objs[k]? =some o:=by
  intro k o e
  rw[b5_,List.getElem?_map]at e
  cases hq:objs[k]? with
  |none=>rw[hq]at e;cases e
  |some u=>rw[hq]at e;cases e;rfl
 have hX: ∀k o,objs[k]? =some o→ ∃s,X[k]? =some s:=fun k o e=>by
  have h1:=(List.getElem?_eq_some_iff.1 e).1
  exact⟨X[k]'(by omega),List.getElem?_eq_getElem (by omega)⟩
 have hro: ∀k o,(mkS (objs.map some)).h.get k=some o→o.isOwn=false:=fun k o e=>by
  obtain⟨s,hs⟩:=hX k o (hget k o e)
  exact(hobj k s o hs (hget k o e)).1
 have hnown: ∀b,¬Own (mkS (objs.map some)).h.get (fun i=>X[i]?) b:=fun b ⟨a,o,t,e1,e2,_⟩=>by rw[hro a o e1]at e2;cases e2
 have hFr: ∀b,Frz (fun i=>X[i]?) b→F b:=fun b ⟨a,s,e1,e2⟩=>hfz s (List.mem_of_getElem? e1) b e2
 refine W4_ (ρ:=fun i=>X[i]?) (X:=X) hm hC rfl (fun i t e=>⟨t,e,SameSpot.refl t⟩) hv ⟨fun a t e hvd=> ?_,fun a o e=> ?_,fun a b oa ob sa sb ea eb eo ra rb va vb heq=> ?_,fun b hb=>⟨hF b (hFr b hb),hnown b⟩⟩ (fun k o e=> ?_) (fun a ha=> ?_) (fun b hb'=> ?_) hFr h
 ·exact hblk t (List.mem_of_getElem? e) hvd
 ·obtain⟨s,hs⟩:=hX a o (hget a o e)
  exact⟨s,hs,(hobj a s o hs (hget a o e)).2 _ w (fun b hb=>⟨a,s,hs,hb⟩) (BelowW.refl _ _ _ _ _)⟩
 ·rcases eo with eo|eo
  ·rw[hro a oa ea]at eo;cases eo
  ·rw[hro b ob eb]at eo;cases eo
 ·have:=(List.getElem?_eq_some_iff.1 (hget k o e)).1
  simpa [mkS]using this
 ·have:objs.length≤a:=by simpa [mkS]using ha
  exact List.getElem?_eq_none (by omega)
 ·obtain⟨a,o,t,e,e0,_⟩:=hb'
  rw[hro a o e]at e0;cases e0
def adW_(r:AE)(_:ASt):Prop:=match r with
 | .returned (.bool b)=>need b True
 |_=>False
theorem PostE.true{β:Bs}(hW: ∀b,¬β.W b){e:Ending}{w':World}(h:PostE β adW_ e w'):e= .returned (.bool true)∧Below β.B β.w0 w':=by
 obtain⟨⟨r,st',ρ',h1,h2,_⟩,h3⟩:=h
 refine⟨?_,h3.of hW⟩
 unfold adW_ at h2
 split at h2
 ·rename_i b
  obtain⟨hb,_⟩:=ne_ h2
  subst hb
  obtain⟨v',rfl,hv⟩:=h1
  cases hv;rfl
 ·exact h2.elim
theorem w64{x:Int}(h1: -9223372036854775808≤x)(h2:x<9223372036854775808):IntKind.wrap .i64 x=x:=by
 unfold IntKind.wrap
 simp[IntKind.signed,IntKind.bits]
 split<;>omega
theorem br_t(A B:Prop):br true A B=A:=rfl
theorem br_f(A B:Prop):br false A B=B:=rfl
theorem z3_(A:Prop):need true A=A:=rfl
theorem LoopJ.seen{P:Program}{β:Bs}{ex:Nat→Kt→Prop}{b:Nat}{c:Code}{f f1:AFr}{st st1:ASt}(hs:Seen β f st f1 st1)(h:LoopJ P β ex b c f1 st1):LoopJ P β ex b c f st:=⟨fun K hK=>J.seen hs (h.ok K hK)⟩
theorem Seen.trans{β:Bs}{f f1 f2:AFr}{st st1 st2:ASt}(h:Seen β f st f1 st1)(k:Seen β f1 st1 f2 st2):Seen β f st f2 st2:=fun ρ a w hr=>by
 obtain⟨ρ1,h1⟩:=h ρ a w hr
 exact k ρ1 a w h1
def Nn(β:Bs){α:Type}(I:α→Prop)(m:α→Nat)(F:α→AFr)(S:α→ASt)(p:α)(K:Kt):Kt:=fun x f st=>
 (x= .normal∧ ∃p',I p'∧m p'<m p∧Seen β f st (F p') (S p'))∨(x≠ .normal∧(∀v,x≠ .panic v)∧ ∃f1 st1,Seen β f st f1 st1∧K x f1 st1)
theorem Nn.next{β:Bs}{α:Type}{I:α→Prop}{m:α→Nat}{F:α→AFr}{S:α→ASt}{p:α}{K:Kt}{f:AFr}{st:ASt}(p':α)(h:I p')(hm:m p'<m p)(hs:Seen β f st (F p') (S p')):Nn β I m F S p K .normal f st:= .inl ⟨rfl,p',h,hm,hs⟩
theorem Nn.exit{β:Bs}{α:Type}{I:α→Prop}{m:α→Nat}{F:α→AFr}{S:α→ASt}{p:α}{K:Kt}{b:Nat}{f f1:AFr}{st st1:ASt}(hs:Seen β f st f1 st1)(h:K (.exit b) f1 st1):Nn β I m F S p K (.exit b) f st:= .inr ⟨by simp,by simp,f1,st1,hs,h⟩
theorem Nn.ret{β:Bs}{α:Type}{I:α→Prop}{m:α→Nat}{F:α→AFr}{S:α→ASt}{p:α}{K:Kt}{f f1:AFr}{st st1:ASt}(hs:Seen β f st f1 st1)(h:K .ret f1 st1):Nn β I m F S p K .ret f st:= .inr ⟨by simp,by simp,f1,st1,hs,h⟩
def onP(N:Kt)(x:AX)(p:AFr×ASt):Prop:=N x p.1 p.2
def z1_(k:Nat):Value:= .slice (some ⟨k,0,some 0⟩) 0 1
theorem Seen.nilSlot{β:Bs}{f f':AFr}{l:List (Option AObj)}(s es:Nat)(e:Nat→Nat→Td)(hn:f'.n=f.n)(hd:f'.defers=f.defers)(hs:f.tmps.get s=some (.slice none 0 0))(h: ∀t v,f'.tmps.get t=some v→(t=s∧v=z1_ l.length)∨f.tmps.get t=some v):
  Seen β f (mkS l) f' (mkS (l++[some (.row .mine es 0 0 e)])):=by
 intro ρ a w hr
 have hfn:ρ l.length=none:=hr.fresh _ (Nat.le_refl _)
 have m:=Mv.rowVoid (w':=w) (es:=es) (f:=e) hr.wr hfn rfl rfl rfl rfl
 have hg:(mkS (l++[some (.row .mine es 0 0 e)])).h.get=upd (mkS l).h.get l.length (some (.row .mine es 0 0 e)):=by
  funext k
  rw[b5_]
  by_cases hk:k=l.length
  ·subst hk;rw[a1_,List.getElem?_append_right (Nat.le_refl _)];simp
  ·rw[a2_ _ _ hk,b5_]
   rcases Nat.lt_or_ge k l.length with h1|h1
   ·rw[List.getElem?_append_left h1]
   ·rw[List.getElem?_eq_none (by simp;omega),List.getElem?_eq_none h1]
 have hlo:LoS (mkS l) (mkS (l++[some (.row .mine es 0 0 e)])):=by
  refine⟨by simp[mkS],Nat.le_refl _,fun x h1 _=> ?_,fun x o' e'=> ?_⟩
  ·rw[hg];exact a2_ _ _ (by have:x<l.length:=h1;omega)
  ·rw[hg]at e'
   by_cases hx:x=l.length
   ·exact .inr (by subst hx;simp[mkS])
   ·rw[a2_ _ _ hx]at e';exact .inl ⟨o',e'⟩
 have hnx:(mkS (l++[some (.row .mine es 0 0 e)])).next=(mkS l).next+1:=by simp[mkS]
 refine⟨_,hr.step hlo ⟨by rw[hn];exact hr.fr.size,fun t v ht=> ?_,by rw[hd];exact hr.fr.defs.mono m.ext⟩ (by rw[hg,hnx];exact m)⟩
 rcases h t v ht with⟨rfl,rfl⟩|h1
 ·obtain⟨v',h2,h3⟩:=hr.fr.tmp _ _ hs
  refine⟨v',h2,?_⟩
  cases h3
  exact .sliceN _ _
 ·obtain⟨v',h2,h3⟩:=hr.fr.tmp t v h1
  exact⟨v',h2,h3.mono m.ext⟩
end Go.Proofs.YtachglcffimmeaaGreat.Ev
