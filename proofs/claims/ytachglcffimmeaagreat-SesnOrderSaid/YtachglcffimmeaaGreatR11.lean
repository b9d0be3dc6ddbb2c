/-
  The evaluator where values are left open: it branches, and says what has to hold; what it says, the evaluator says.
-/
import Derived.Test.YtachglcffimmeaaGreatR10
set_option linter.unusedVariables false
set_option linter.unusedSimpArgs false
namespace Go.Proofs.YtachglcffimmeaaGreat.Ev
open Go
def br(b:Bool)(K1 K2:Prop):Prop:=match b with
 |true=>K1
 |false=>K2
theorem a0_{b:Bool}{K1 K2:Prop}(h1:b=true→K1)(h2:b=false→K2):br b K1 K2:=by cases b;exact h2 rfl;exact h1 rfl
theorem br_elim{b:Bool}{K1 K2:Prop}(h:br b K1 K2):(b=true∧K1)∨(b=false∧K2):=by cases b;exact .inr ⟨rfl,h⟩;exact .inl ⟨rfl,h⟩
def need(b:Bool)(K:Prop):Prop:=match b with
 |true=>K
 |false=>False
theorem nd_{b:Bool}{K:Prop}(h:b=true)(k:K):need b K:=by subst h;exact k
theorem ne_{b:Bool}{K:Prop}(h:need b K):b=true∧K:=by cases b;exact h.elim;exact⟨rfl,h⟩
def rsK{α:Type}(x:Rs α)(K:α→Prop):Prop:=match x with
 | .ok a=>K a
 | .er _ _=>False
theorem rK_{α:Type}{x:Rs α}{K:α→Prop}(h:rsK x K): ∃a,x= .ok a∧K a:=by cases x with|ok a=>exact⟨a,rfl,h⟩|er=>exact h.elim
def optK{α:Type}(x:Option α)(K:α→Prop):Prop:=match x with
 |some a=>K a
 |none=>False
theorem F2_{α:Type}{x:Option α}{K:α→Prop}(h:optK x K): ∃a,x=some a∧K a:=by cases x with|some a=>exact⟨a,rfl,h⟩|none=>exact h.elim
def idxK(n:Int)(K:Nat→Prop):Prop:=need (decide (0≤n)) (K n.toNat)
theorem l6_{n:Int}{K:Nat→Prop}(h:idxK n K): ∃i,n= .ofNat i∧K i:=by
 obtain⟨h1,h2⟩:=ne_ h
 exact⟨n.toNat,(Int.toNat_of_nonneg (of_decide_eq_true h1)).symm,h2⟩
def selN:Nat→Nat→Nat→(Nat→Prop)→Prop
 |0,_,_,_=>False
 |r+1,j,i,K=>br (Nat.beq i j) (K j) (selN r (j+1) i K)
theorem T4_{i:Nat}{K:Nat→Prop}: ∀{r j:Nat},selN r j i K→i<j+r∧K i
 |0,_,h=>h.elim
 |r+1,j,h=>by
  rcases br_elim h with⟨h1,h2⟩|⟨_,h2⟩
  ·have:=Nat.eq_of_beq_eq_true h1
   subst this;exact⟨by omega,h2⟩
  ·obtain⟨a,b⟩:=T4_ h2
   exact⟨by omega,b⟩
def fewN(n i:Nat)(K:Nat→Prop):Prop:=cond (Nat.ble n 16) (selN n 0 i K) (need (Nat.blt i n) (K i))
theorem agn_{n i:Nat}{K:Nat→Prop}(h:fewN n i K):Nat.blt i n=true∧K i:=by
 unfold fewN at h
 cases hb:Nat.ble n 16 with
 |true=>
  rw[hb]at h
  obtain⟨a,b⟩:=T4_ h
  exact⟨by simpa using a,b⟩
 |false=>
  rw[hb]at h
  exact ne_ h
def L0_(v:Value)(C:Value→Prop):Prop:=match v with
 | .int k n=>C (.int k n)
 | .bool b=>C (.bool b)
 | .float k b=>C (.float k b)
 | .pointer (some ⟨a,o,none⟩)=>C (.pointer (some ⟨a,o,none⟩))
 | .pointer (some ⟨a,o,some i⟩)=>C (.pointer (some ⟨a,o,some i⟩))
 | .slice (some ⟨a,o,none⟩) n c=>C (.slice (some ⟨a,o,none⟩) n c)
 | .slice (some ⟨a,o,some i⟩) n c=>C (.slice (some ⟨a,o,some i⟩) n c)
 |v=>C v
theorem u9_{v:Value}{C:Value→Prop}(h:L0_ v C):C v:=by
 unfold L0_ at h
 split at h<;>exact h
def W9_:List Value→(List Value→Prop)→Prop
 |[],C=>C []
 |v::l,C=>L0_ v fun v=>W9_ l fun l=>C (v::l)
theorem G8_: ∀{l:List Value} {C:List Value→Prop},W9_ l C→C l:=by
 intro l
 induction l with
 |nil=>intro C h;exact h
 |cons v l ih=>intro C h;exact ih (u9_ h)
def acd_(v:Value)(C:Value→Prop):Prop:=match v with
 | .agg vs=>W9_ vs.toList fun l=>C (.agg ⟨l⟩)
 |v=>L0_ v C
theorem X0_{v:Value}{C:Value→Prop}(h:acd_ v C):C v:=by
 unfold acd_ at h
 split at h
 ·exact G8_ h
 ·exact u9_ h
def P5_:List Value→(List Value→Prop)→Prop
 |[],C=>C []
 |v::l,C=>acd_ v fun v=>P5_ l fun l=>C (v::l)
theorem L2_: ∀{l:List Value} {C:List Value→Prop},P5_ l C→C l:=by
 intro l
 induction l with
 |nil=>intro C h;exact h
 |cons v l ih=>intro C h;exact ih (X0_ h)
def L1_(v:Value)(C:Value→Prop):Prop:=match v with
 | .tuple vs=>P5_ vs.toList fun l=>C (.tuple ⟨l⟩)
 |v=>acd_ v C
theorem v0_{v:Value}{C:Value→Prop}(h:L1_ v C):C v:=by
 unfold L1_ at h
 split at h
 ·exact L2_ h
 ·exact X0_ h
def cmpF(op:BinOp)(k:FloatKind)(a b:Nat):Option Bool:=match op with
 | .eql=>some (k.format.order a b==some .eq)
 | .neq=>some (k.format.order a b !=some .eq)
 | .lss=>some (k.format.order a b==some .lt)
 | .leq=>some (k.format.order a b==some .lt||k.format.order a b==some .eq)
 | .gtr=>some (k.format.order a b==some .gt)
 | .geq=>some (k.format.order a b==some .gt||k.format.order a b==some .eq)
 |_=>none
def Q6_(op:BinOp):Bool:=match op with
 | .add| .sub| .mul| .quo=>true
 |_=>false
def ariR(k:FloatKind)(op:BinOp)(a b:Nat):Nat:=match op with
 | .add=>(k.format.add a b).getD (qnan k)
 | .sub=>(k.format.sub a b).getD (qnan k)
 | .mul=>(k.format.mul a b).getD (qnan k)
 | .quo=>(k.format.div a b).getD (qnan k)
 |_=>0
def negR(a:Nat):Nat:=cond (nanB .f64 a) (qnan .f64) (Op.negFloat .f64 a)
def fltN(op:BinOp)(k:FloatKind)(a b:Nat)(K:Value→Prop):Prop:=
 match cmpF op k a b with
 |some q=>K (.bool q)
 |none=>cond (Q6_ op) (K (.float k (ariR k op a b))) False
def divN(op:BinOp)(k:IntKind)(a b:Int):Option Value:=match op with
 | .quo=>some (.int k (k.wrap (a.tdiv b)))
 | .rem=>some (.int k (a.tmod b))
 |_=>none
def shN(op:BinOp)(k:IntKind)(a b:Int):Option Value:=match op with
 | .shl=>some (.int k (k.wrap (a*2^(min b.toNat k.bits))))
 | .shr=>some (.int k (a.fdiv (2^(min b.toNat k.bits))))
 |_=>none
def floatsK:List Value→Prop→Prop
 |[],K=>K
 | .float k b::l,K=>need (!nanB k b) (floatsK l K)
 |v::l,K=>need (ground 1 v) (floatsK l K)
def agG_(x:Option Value)(dflt most:Nat)(K:Nat→Prop):Prop:=match x with
 |none=>K dflt
 |some (.int _ n)=>idxK n fun i=>need (Nat.ble i most) (K i)
 |_=>False
def aaV_(x:Option Value)(len cap:Nat)(K:Nat→Prop):Prop:=match x with
 |none=>K len
 |some (.int _ n)=>idxK n fun i=>need (Nat.ble i len) (K i)
 |_=>False
def aab_(g:Value→ASt→(Td→ASt→Prop)→Prop):List Value→ASt→(List Td→ASt→Prop)→Prop
 |[],st,K=>K [] st
 |v::l,st,K=>g v st fun t st1=>aab_ g l st1 fun ts st2=>K (t::ts) st2
def toTN:Nat→Value→ASt→(Td→ASt→Prop)→Prop
 |0,_,_,_=>False
 |f+1,v,st,K=>match v with
  | .slice none 0 0=>K (.fr 0 0 1 noT) st
  | .slice (some ⟨b,0,some i0⟩) n c=>match st.h.get b with
   |some (.row _ es lo m g)=>need (Nat.ble lo i0&&Nat.ble (i0+n) m) (rsK (froze st b) fun st'=>K (.fr es n c fun i=>g (i0+i)) st')
   |_=>False
  | .slice (some ⟨b,o,none⟩) n _=>match L6_ (st.h.get b)with
   |some (cs,es)=>cond ((Nat.blt 0 es||Nat.beq n 0)&&Nat.ble (o+n*es) cs.length) (optK (s0_ (n*es) (H3_ o cs)) fun l=>aab_ (toTN f) l st fun ts st1=>rsK (froze st1 b) fun st'=>K (.fr es n 0 (selT es n ts)) st') False
   |none=>False
  |v=>cond (s2_ v) (K (.sc v) st) False
def adz_(st:ASt)(a:Addr)(ts:List Td)(K:ASt→Prop):Prop:=match st.h.get a.block with
 |some (.row .mine es lo n elem)=>match a.spot with
  |some i=>cond (Nat.ble (a.off+ts.length) es) (need (Nat.blt i n) (K (st.set a.block (some (.row .mine es lo n (putT i a.off ts elem)))))) False
  |none=>False
 |_=>False
def adB_(st:ASt)(a:Addr)(vs:List Value)(K:ASt→Prop):Prop:=cond (isRow (st.h.get a.block)) (aab_ (toTN 4) vs st fun ts st1=>adz_ st1 a ts K) (rsK (st.writeC a vs) K)
def srcN(P:Program)(st:ASt)(d2:TypeDesc)(elem:TypeId)(size:Nat)(x:Value)(K:Nat→(Nat→Nat→Td)→ASt→Prop):Prop:=match x with
 | .int _ n=>match d2 with
  | .int _=>idxK n fun n=>need (Nat.ble n 1000000) (rsK (i6_ P elem) fun z=>cond (z.all zOk) (K n (fun _ j=>nthT (z.map zT) j) st) False)
  |_=>False
 | .slice (some ⟨b0,0,some i0⟩) n _=>match d2,st.h.get b0 with
  | .slice _,some (.row _ es lo m g)=>cond (Nat.beq es size) (need (Nat.ble lo i0&&Nat.ble (i0+n) m) (K n (fun j=>g (i0+j)) st)) False
  |_,_=>False
 | .string s=>match d2 with
  | .string=>cond (Nat.beq size 1) (K s.size (fun i _=> .sc (.int .u8 (Int.ofNat (strB s i)))) st) False
  |_=>False
 |x=>rsK (I4_ P st d2 elem size x) fun r=>match r with
  |(n,l)=>aab_ (toTN 4) l st fun ts st1=>K n (selT size n ts) st1
def ajg_(st:ASt)(size:Nat)(s:Value)(n:Nat)(f:Nat→Nat→Td)(K:AN→Prop):Prop:=match s with
 | .slice (some ⟨b0,0,some i0⟩) len c=>match st.h.get b0 with
  |some (.row .mine es lo m g)=>cond (Nat.beq es size) (need (Nat.ble lo i0&&Nat.ble (i0+len) m) (K (.val (.slice (some ⟨st.next,0,some 0⟩) (len+n) c)
    ((st.set b0 none).new (.row .mine size 0 (len+n) fun j k=>mrgT (Nat.blt j len) (g (i0+j) k) (f (j-len) k)))))) False
  |_=>False
 |s=>rsK (c8_ st size s n f) K
def amW_(st:ASt)(size:Nat)(s:Value)(n:Nat)(f:Nat→Nat→Td)(K:AN→Prop):Prop:=match s with
 | .slice (some ⟨b0,o,none⟩) len c=>match st.h.get b0 with
  |some (.cells cs ex es)=>cond (Nat.blt 0 len) (cond (J2_ o size len c es ex cs) (ajg_ (M4_ st b0 o size len cs) size (.slice (some ⟨st.next,0,some 0⟩) len c) n f K) False)
   (rsK (c8_ st size (.slice (some ⟨b0,o,none⟩) len c) n f) K)
  |_=>rsK (c8_ st size (.slice (some ⟨b0,o,none⟩) len c) n f) K
 |s=>ajg_ st size s n f K
def appN(P:Program)(st:ASt)(ts:List TypeId)(args:List Value)(K:AN→Prop):Prop:=match ts,args with
 |t::t2::ts',[s,x]=>cond (abU_ s x)
  (rsK (undL P t) fun d=>rsK (undL P t2) fun d2=>match d with
   | .slice elem=>rsK (b3_ P elem) fun size=>rsK (m1_ P elem) fun by_=>rsK (i6_ P elem) fun z=>srcN P st d2 elem size x fun n f st1=>match s with
    | .slice _ len _=>cond (Nat.ble by_ 1000000&&Nat.beq z.length size) (need (Nat.ble (len+n) 1000000) (amW_ st1 size s n f K)) False
    |_=>False
   |_=>False)
  (rsK (Q9_ P st (t::t2::ts') [s,x]) K)
 |_,_=>False
def extN(P:Program)(f:FuncId)(args:List Value)(st:ASt)(K:AN→Prop):Prop:=match P.funcs.toList[f]? with
 |some fn=>match fn.body with
  |some _=>rsK (abd_ P f args st) K
  |none=>cond (s6_ fn) (match args with
    |[.float .f64 x]=>K (.val (.float .f64 (y4_ x)) st)
    |_=>False)
   (floatsK args (match a9_ P (callFunc f args.toArray)with| .ok (.value v)=>cond (w5_ v) (K (.val v st)) False|_=>False))
 |none=>False
def seeK:List Td→ASt→(List Value→ASt→Prop)→Prop
 |[],st,K=>K [] st
 |t::l,st,K=>match t with
  | .sc x=>L0_ x fun x=>seeK l st fun vs st'=>K (x::vs) st'
  | .fr es n c e=>seeK l (st.new (.row .still es 0 n e)) fun vs st'=>K (.slice (some ⟨st.next,0,some 0⟩) n c::vs) st'
def alp_(st:ASt)(a:Addr)(n:Nat)(K:List Value→ASt→Prop):Prop:=match st.h.get a.block with
 |some (.row _ es lo m elem)=>match a.spot with
  |some i=>cond (Nat.beq a.off 0&&Nat.blt es n) (need (Nat.ble lo i&&Nat.ble (i+n/es) m&&Nat.beq (n/es*es) n) (seeK (E3_ es elem i (n/es)) st K))
   (cond (Nat.ble (a.off+n) es) (need (Nat.ble lo i&&Nat.blt i m) (seeK (z9_ (elem i) a.off n) st K)) False)
  |none=>False
 |_=>rsK (st.read a n) fun r=>K r.1 r.2
def aqd_(kd:IntKind)(x:Option Int):Bool:=match x with
 |some n=>decide (kd.min≤n∧n≤kd.max)
 |none=>false
def amB_(P:Program)(kt:TypeId)(k:Value):List MapEntry→Nat→(Option (Nat×MapEntry)→Prop)→Prop
 |[],_,K=>K none
 |e::es,i,K=>rsK (aiI_ P kt k e.key) fun b=>br b (K (some (i,e))) (amB_ P kt k es (i+1) K)
theorem aci_{P:Program}{kt:TypeId}{k:Value}{K:Option (Nat×MapEntry)→Prop}: ∀{es:List MapEntry} {i:Nat},amB_ P kt k es i K→ ∃r,H0_ P kt k es i= .ok r∧K r
 |[],i,h=>⟨none,rfl,h⟩
 |e::es,i,h=>by
  obtain⟨b,hb,h⟩:=rK_ h
  rcases br_elim h with⟨h1,h2⟩|⟨h1,h2⟩
  ·subst h1
   exact⟨_,by simp only[H0_,hb,Rs.bnd,cond_true],h2⟩
  ·subst h1
   obtain⟨r,hr,h3⟩:=aci_ h2
   exact⟨r,by simp only[H0_,hb,Rs.bnd,cond_false,hr],h3⟩
def opN(P:Program)(f:AFr)(st:ASt)(o:Oper)(K:AN→Prop):Prop:=match o.op with
 | .pick c a b=>match f.ev c with
  | .bool b'=>br b' (K (.val (f.ev a) st)) (K (.val (f.ev b) st))
  |_=>False
 | .binOp op t x y _=>match f.ev x,f.ev y with
  | .float k a,.float k' b=>cond (N2_ k k') (fltN op k a b fun v=>K (.val v st)) False
  | .int k a,.int k' b=>match divN op k a b with
   |some v=>need (decide (k=k')&& !(decide (b=0))) (K (.val v st))
   |none=>match shN op k a b with
    |some v=>need (decide (0≤b)) (K (.val v st))
    |none=>rsK (aOp P f st o) K
  |_,_=>rsK (aOp P f st o) K
 | .unOp op _ x=>match f.ev x with
  | .float .f64 a=>match op with
   | .neg=>K (.val (.float .f64 (negR a)) st)
   |_=>False
  |_=>rsK (aOp P f st o) K
 | .convert s d x=>match f.ev x with
  | .float k b=>(match P.underlying s,P.underlying d with
   |some _,some (.int kd)=>need (!nanB k b) (need (aqd_ kd ((k.decode b).toInt .zero)) (K (.val (.int kd (((k.decode b).toInt .zero).getD 0)) st)))
   |_,_=>False)
  | .slice (some ⟨b0,0,some i0⟩) n c=>rsK (undL P s) fun ds=>rsK (undL P d) fun dd=>match ds,dd with
   | .slice e,.string=>rsK (undL P e) fun u=>match u,st.h.get b0 with
    | .int .u8,some (.row _ es lo m g)=>cond (Nat.beq es 1) (need (Nat.ble lo i0&&Nat.ble (i0+n) m) (need (allB n fun j=>g (i0+j)) (K (.val (.string (s1_ n fun j=>g (i0+j))) st)))) False
    |_,_=>False
   |_,_=>False
  |_=>rsK (aOp P f st o) K
 | .store t a x=>match f.ev a with
  | .pointer (some a)=>rsK (b3_ P t) fun n=>cond (Nat.beq (e7_ (f.ev x)).length n) (adB_ st a (e7_ (f.ev x)) fun st'=>K (.val undef st')) False
  |_=>False
 | .indexAddr t x i=>match f.ev i with
  | .int _ n=>idxK n fun i=>rsK (undL P t) fun d=>match d,f.ev x with
   | .slice e,.slice (some ⟨b0,o0,none⟩) n _=>rsK (b3_ P e) fun s=>fewN n i fun i=>K (.val (.pointer (some ((⟨b0,o0,none⟩:Addr).add (i*s)))) st)
   | .slice e,.slice (some ⟨b0,0,some i0⟩) n _=>rsK (b3_ P e) fun s=>match st.h.get b0 with
    |some (.row _ es _ _ _)=>cond (Nat.beq es s) (need (Nat.blt i n) (K (.val (.pointer (some ⟨b0,0,some (i0+i)⟩)) st))) False
    |_=>False
   | .array n e,.pointer (some ⟨b0,o0,none⟩)=>rsK (b3_ P e) fun s=>need (Nat.blt i n) (K (.val (.pointer (some ((⟨b0,o0,none⟩:Addr).add (i*s)))) st))
   | .array n e,.pointer (some ⟨b0,o0,some i0⟩)=>rsK (b3_ P e) fun s=>need (Nat.blt i n) (K (.val (.pointer (some ⟨b0,o0+i*s,some i0⟩)) st))
   |_,_=>False
  |_=>False
 | .makeSlice t l c=>cond (ahT_ c) (match f.ev l,f.ev c with
  | .int _ x,.int _ y=>idxK x fun l'=>idxK y fun c'=>rsK (undL P t) fun d=>match d with
   | .slice e=>rsK (i6_ P e) fun z=>rsK (b3_ P e) fun n=>rsK (m1_ P e) fun b=>cond (Nat.ble b 1000000&&Nat.beq z.length n&&z.all zOk) (need (Nat.beq l' c'&&Nat.ble c' 1000000) (K (.val (.slice (some ⟨st.next,0,some 0⟩) l' 0) (st.new (.row .mine n 0 l' fun _ j=>nthT (z.map zT) j))))) False
   |_=>False
  |_,_=>False) (rsK (aOp P f st o) K)
 | .load t a=>match f.ev a with
  | .pointer (some a)=>rsK (b3_ P t) fun n=>alp_ st a n fun l st'=>rsK (aaf_ P t l) fun v=>K (.val v st')
  |_=>False
 | .slice t x lo hi mx=>match mx,f.ev x with
  |none,.slice (some ⟨b0,0,some i0⟩) len cap=>rsK (undL P t) fun d=>match d with
   | .slice e=>aaV_ (hi.map f.ev) len cap fun h=>agG_ (lo.map f.ev) 0 h fun l=>rsK (b3_ P e) fun s=>match st.h.get b0 with
    |some (.row _ es _ _ _)=>cond (Nat.beq es s) (K (.val (.slice (some ⟨b0,0,some (i0+l)⟩) (h-l) (cond (Nat.beq len 0) cap 0)) st)) False
    |_=>False
   |_=>False
  |_,_=>rsK (aOp P f st o) K
 | .lookup t x i ok=>rsK (undL P t) fun d=>match d with
  | .map kt et=>match V8_ st (f.ev x)with
   |some (kk,vk,es)=>rsK (aiF_ P kt et kk vk es (f.ev i) ok) fun v=>K (.val v st)
   |none=>rsK (undL P kt) fun _=>rsK (aiE_ st (f.ev x)) fun es=>rsK (I5_ P kt es.isEmpty (f.ev i)) fun _=>amB_ P kt (f.ev i) es 0 fun r=>rsK (I0_ P et) fun z=>K (.val (cond ok (.tuple #[u8_ r z,.bool r.isSome]) (u8_ r z)) st)
  |_=>False
 | .call c=>match c.callee with
  | .value g=>match f.ev g with
   | .func (.func fid) a b=>extN P fid ((a.toList++c.args.toList.map f.ev)++b.toList) st K
   |_=>False
  | .builtin .append=>appN P st c.argTypes.toList (c.args.toList.map f.ev) K
  |_=>rsK (aOp P f st o) K
 |_=>rsK (aOp P f st o) K
theorem agF_{x:Option Value}{dflt most:Nat}{K:Nat→Prop}(h:agG_ x dflt most K): ∃r,d2_ x dflt most= .ok r∧K r:=by
 unfold agG_ at h
 split at h
 ·exact⟨dflt,rfl,h⟩
 ·obtain⟨i,rfl,h2⟩:=l6_ h
  obtain⟨h3,h4⟩:=ne_ h2
  exact⟨i,by simp only[d2_,h3,cond_true],h4⟩
 ·exact h.elim
theorem adq_{x:Option Value}{len cap:Nat}{K:Nat→Prop}(h:aaV_ x len cap K): ∃r,d2_ x len len= .ok r∧K r:=by
 unfold aaV_ at h
 split at h
 ·exact⟨len,rfl,h⟩
 ·obtain⟨i,rfl,h2⟩:=l6_ h
  obtain⟨h3,h4⟩:=ne_ h2
  exact⟨i,by simp only[d2_,h3,cond_true],h4⟩
 ·exact h.elim
theorem t6_{g:Value→ASt→(Td→ASt→Prop)→Prop}{g':Value→ASt→Rs (Td×ASt)}(hg: ∀v st K,g v st K→ ∃t st',g' v st= .ok (t,st')∧K t st'): ∀{l:List Value} {st:ASt} {K:List Td→ASt→Prop},aab_ g l st K→ ∃ts st',toTs g' l st= .ok (ts,st')∧K ts st':=by
 intro l
 induction l with
 |nil=>intro st K h;exact⟨[],st,rfl,h⟩
 |cons v l ih=>
  intro st K h
  obtain⟨t,st1,h1,h2⟩:=hg v st _ h
  obtain⟨ts,st2,h3,h4⟩:=ih h2
  exact⟨t::ts,st2,by simp only[toTs,h1,h3,Rs.bnd],h4⟩
theorem aac_: ∀(f:Nat) (v:Value) (st:ASt) (K:Td→ASt→Prop),toTN f v st K→ ∃t st',toT f v st= .ok (t,st')∧K t st':=by
 intro f
 induction f with
 |zero=>intro v st K h;exact h.elim
 |succ f ih=>
  intro v st K h
  unfold toTN at h
  unfold toT
  split at h
  ·exact⟨_,_,rfl,h⟩
  ·rename_i b i0 n c
   split at h
   ·rename_i k es lo m g hg
    obtain⟨h1,h⟩:=ne_ h
    obtain⟨st',h2,h3⟩:=rK_ h
    exact⟨_,_,by simp only[hg,h1,cond_true,h2,Rs.bnd],h3⟩
   ·exact h.elim
  ·rename_i b o n c
   split at h
   ·rename_i cs es hg
    cases hb:((Nat.blt 0 es||Nat.beq n 0)&&Nat.ble (o+n*es) cs.length)with
    |false=>rw[hb]at h;exact h.elim
    |true=>
     rw[hb]at h
     obtain⟨l,h1,h⟩:=F2_ h
     obtain⟨ts,st1,h2,h⟩:=t6_ ih h
     obtain⟨st',h3,h4⟩:=rK_ h
     exact⟨_,_,by simp only[hg,hb,cond_true,h1,h2,h3,Rs.of,Rs.bnd],h4⟩
   ·exact h.elim
  ·rename_i h1 h2 h3
   cases hs:s2_ v with
   |false=>rw[hs]at h;exact h.elim
   |true=>
    rw[hs]at h
    refine⟨.sc v,st,?_,h⟩
    split
    ·exact(h1 rfl).elim
    ·exact(h2 _ _ _ _ rfl).elim
    ·exact(h3 _ _ _ _ rfl).elim
    ·simp only[hs,cond_true]
theorem adA_{st:ASt}{a:Addr}{vs:List Value}{K:ASt→Prop}(h:adB_ st a vs K): ∃st',st.write a vs= .ok st'∧K st':=by
 unfold adB_ at h
 unfold ASt.write
 cases hr:isRow (st.h.get a.block)with
 |false=>
  rw[hr]at h
  exact rK_ h
 |true=>
  rw[hr]at h
  simp only[cond_true]at h ⊢
  obtain⟨ts,st1,h1,h2⟩:=t6_ (aac_ 4) h
  simp only[h1,Rs.bnd]
  unfold adz_ at h2
  unfold ASt.writeR
  split at h2
  ·rename_i es lo n elem hg
   rw[hg]
   split at h2
   ·rename_i i hi
    rw[hi]
    cases hb:Nat.ble (a.off+ts.length) es with
    |false=>rw[hb]at h2;exact h2.elim
    |true=>
     rw[hb]at h2
     obtain⟨h3,h4⟩:=ne_ h2
     exact⟨_,by simp only[hb,h3,cond_true],h4⟩
   ·exact h2.elim
  ·exact h2.elim
theorem ald_{P:Program}{st:ASt}{d2:TypeDesc}{elem:TypeId}{size:Nat}{x:Value}{K:Nat→(Nat→Nat→Td)→ASt→Prop}(h:srcN P st d2 elem size x K): ∃n f st1,srcF P st d2 elem size x= .ok (n,f,st1)∧K n f st1:=by
 unfold srcN at h
 split at h
 ·rename_i k n
  split at h
  ·rename_i k2
   obtain⟨n',hn,h9⟩:=l6_ h
   clear h
   subst hn
   obtain⟨h1,h8⟩:=ne_ h9
   obtain⟨z,hz,h7⟩:=rK_ h8
   cases hc:z.all zOk with
   |false=>rw[hc]at h7;exact h7.elim
   |true=>
    rw[hc]at h7
    exact⟨n',_,st,by simp only[srcF,h1,hz,Rs.bnd,hc,cond_true],h7⟩
  ·exact h.elim
 ·rename_i b0 i0 n c
  split at h
  ·rename_i e2 own es lo m g hg
   cases he:Nat.beq es size with
   |false=>rw[he]at h;exact h.elim
   |true=>
    rw[he]at h
    obtain⟨h1,h2⟩:=ne_ h
    exact⟨_,_,_,by simp only[srcF,hg,he,h1,cond_true],h2⟩
  ·exact h.elim
 ·rename_i str
  split at h
  ·cases he:Nat.beq size 1 with
   |false=>rw[he]at h;exact h.elim
   |true=>
    rw[he]at h
    exact⟨_,_,_,by simp only[srcF,he,cond_true],h⟩
  ·exact h.elim
 ·rename_i hni hne hns
  obtain⟨⟨n,l⟩,h1,h2⟩:=rK_ h
  obtain⟨ts,st1,h3,h4⟩:=t6_ (aac_ 4) h2
  refine⟨n,_,st1,?_,h4⟩
  unfold srcF
  split
  ·exact(hni _ _ rfl).elim
  ·exact(hne _ _ _ _ rfl).elim
  ·exact(hns _ rfl).elim
  ·simp only[h1,h3,Rs.bnd]
theorem act_{st:ASt}{size:Nat}{s:Value}{n:Nat}{f:Nat→Nat→Td}{K:AN→Prop}(h:ajg_ st size s n f K): ∃r,c8_ st size s n f= .ok r∧K r:=by
 unfold ajg_ at h
 split at h
 ·rename_i b0 i0 len c
  split at h
  ·rename_i es lo m g hg
   cases he:Nat.beq es size with
   |false=>rw[he]at h;exact h.elim
   |true=>
    rw[he]at h
    obtain⟨h1,h2⟩:=ne_ h
    exact⟨_,by simp only[c8_,hg,he,h1,cond_true],h2⟩
  ·exact h.elim
 ·exact rK_ h
theorem aji_{st:ASt}{size:Nat}{s:Value}{n:Nat}{f:Nat→Nat→Td}{K:AN→Prop}(h:amW_ st size s n f K): ∃r,f1_ st size s n f= .ok r∧K r:=by
 unfold amW_ at h
 split at h
 ·split at h
  ·rename_i b0 o len c _ cs ex es hg
   cases hb:Nat.blt 0 len with
   |false=>
    rw[hb]at h
    obtain⟨r,h1,h2⟩:=rK_ h
    exact⟨r,by simp only[f1_,hg,hb,cond_false];exact h1,h2⟩
   |true=>
    rw[hb,cond_true]at h
    cases hc:J2_ o size len c es ex cs with
    |false=>rw[hc]at h;exact h.elim
    |true=>
     rw[hc,cond_true]at h
     obtain⟨r,h1,h2⟩:=act_ h
     exact⟨r,by simp only[f1_,hg,hb,hc,cond_true];exact h1,h2⟩
  ·rename_i b0 o len c _ hne
   obtain⟨r,h1,h2⟩:=rK_ h
   refine⟨r,?_,h2⟩
   unfold f1_
   dsimp only
   split
   ·rename_i hg
    exact(hne _ _ _ hg).elim
   ·exact h1
 ·rename_i hne
  obtain⟨r,h1,h2⟩:=act_ h
  refine⟨r,?_,h2⟩
  unfold f1_
  split
  ·exact(hne _ _ _ _ rfl).elim
  ·exact h1
theorem amX_{P:Program}{st:ASt}{ts:List TypeId}{args:List Value}{K:AN→Prop}(h:appN P st ts args K): ∃r,H7_ P st ts args= .ok r∧K r:=by
 unfold appN at h
 split at h
 ·rename_i t t2 ts' s x
  cases hb:abU_ s x with
  |false=>
   rw[hb]at h
   obtain⟨r,h1,h2⟩:=rK_ h
   exact⟨r,by simp only[H7_,hb,cond_false,h1],h2⟩
  |true=>
   rw[hb]at h
   obtain⟨d,h1,h⟩:=rK_ h
   obtain⟨d2,h2,h⟩:=rK_ h
   split at h
   ·rename_i elem
    obtain⟨size,h3,h⟩:=rK_ h
    obtain⟨by_,h4,h⟩:=rK_ h
    obtain⟨z,h5,h⟩:=rK_ h
    obtain⟨n,f,st1,h6,h⟩:=ald_ h
    split at h
    ·rename_i base len c
     cases hc:(Nat.ble by_ 1000000&&Nat.beq z.length size)with
     |false=>rw[hc]at h;exact h.elim
     |true=>
      rw[hc]at h
      obtain⟨h7,h⟩:=ne_ h
      obtain⟨r,h8,h9⟩:=aji_ h
      exact⟨r,by simp only[H7_,hb,cond_true,h1,h2,h3,h4,h5,h6,Rs.bnd,hc,h7,h8],h9⟩
    ·exact h.elim
   ·exact h.elim
 ·exact h.elim
theorem aeB_: ∀{ts:List Td} {st:ASt} {K:List Value→ASt→Prop},seeK ts st K→K (seeT ts st).1 (seeT ts st).2:=by
 intro ts
 induction ts with
 |nil=>intro st K h;exact h
 |cons t ts ih=>
  intro st K h
  cases t with
  |sc x=>exact ih (u9_ (C:=fun x=>seeK ts st fun vs st'=>K (x::vs) st') h)
  |fr es n c e=>exact ih h
theorem aia_{st:ASt}{a:Addr}{n:Nat}{K:List Value→ASt→Prop}(h:alp_ st a n K): ∃l st',st.read a n= .ok (l,st')∧K l st':=by
 unfold alp_ at h
 split at h
 ·rename_i own es lo m elem hg
  have hrow:isRow (st.h.get a.block)=true:=by rw[hg];rfl
  split at h
  ·rename_i i hi
   cases hmul:(Nat.beq a.off 0&&Nat.blt es n)with
   |true=>
    rw[hmul]at h
    obtain⟨h1,h2⟩:=ne_ h
    exact⟨_,_,by simp only[ASt.read,ASt.readT,hg,isRow,hi,hmul,h1,Rs.bnd,cond_true],aeB_ h2⟩
   |false=>
    rw[hmul]at h
    simp only[cond_false]at h
    cases hb:Nat.ble (a.off+n) es with
    |false=>rw[hb]at h;exact h.elim
    |true=>
     rw[hb]at h
     obtain⟨h1,h2⟩:=ne_ h
     exact⟨_,_,by simp only[ASt.read,ASt.readT,hg,isRow,hi,hmul,hb,h1,cond_true,cond_false,Rs.bnd],aeB_ h2⟩
  ·exact h.elim
 ·obtain⟨r,h1,h2⟩:=rK_ h
  exact⟨r.1,r.2,h1,h2⟩
theorem adc_{K:Prop}: ∀{l:List Value},floatsK l K→l.all (ground 1)=true∧K:=by
 intro l
 induction l with
 |nil=>intro h;exact⟨rfl,h⟩
 |cons v l ih=>
  intro h
  unfold floatsK at h
  split at h
  ·rename_i heq;cases heq
  ·rename_i k b l' heq
   cases heq
   obtain⟨h1,h2⟩:=ne_ h
   obtain⟨h3,h4⟩:=ih h2
   exact⟨by simp[List.all_cons,ground,h3];simpa using h1,h4⟩
  ·rename_i v' l' _ heq
   cases heq
   obtain⟨h1,h2⟩:=ne_ h
   obtain⟨h3,h4⟩:=ih h2
   exact⟨by simp[List.all_cons,h1];simpa using h3,h4⟩
theorem amC_{P:Program}{f:FuncId}{args:List Value}{st:ASt}{K:AN→Prop}(h:extN P f args st K): ∃r,abd_ P f args st= .ok r∧K r:=by
 unfold extN at h
 split at h
 ·rename_i fn hf
  split at h
  ·exact rK_ h
  ·rename_i hb
   cases ht:s6_ fn with
   |true=>
    rw[ht]at h
    simp only[cond_true]at h
    split at h
    ·exact⟨_,by simp only[abd_,hf,hb,ht,cond_true],h⟩
    ·exact h.elim
   |false=>
    rw[ht]at h
    obtain⟨h1,h2⟩:=adc_ h
    split at h2
    ·rename_i v hv
     cases hr:w5_ v with
     |false=>rw[hr]at h2;exact h2.elim
     |true=>
      rw[hr]at h2
      exact⟨_,by simp only[abd_,hf,hb,ht,h1,hv,hr,cond_true,cond_false],h2⟩
    ·exact h2.elim
 ·exact h.elim
theorem aar_{P:Program}(op:BinOp)(t:TypeId)(xo yo:Operand)(k:IntKind)(a b:Int)(v:Value)(hd:divN op k a b=some v)(hb:b≠0):
  a9_ P (do eqGuard op t xo yo (.int k a) (.int k b);binOp op t (.int k a) (.int k b))= .ok v:=by
 cases op<;>simp only[divN,Option.some.injEq,reduceCtorEq]at hd<;>subst hd
 ·have:(do eqGuard .quo t xo yo (.int k a) (.int k b);binOp .quo t (.int k a) (.int k b):Sem Value)=Op.intDiv .quo k a b:=by
   cases k<;>rfl
  rw[this,Op.intDiv,if_neg hb];rfl
 ·have:(do eqGuard .rem t xo yo (.int k a) (.int k b);binOp .rem t (.int k a) (.int k b):Sem Value)=Op.intDiv .rem k a b:=by
   cases k<;>rfl
  rw[this,Op.intDiv,if_neg hb];rfl
theorem acP_{P:Program}(op:BinOp)(t:TypeId)(xo yo:Operand)(k k':IntKind)(a b:Int)(v:Value)(hd:shN op k a b=some v)(hb:0≤b):
  a9_ P (do eqGuard op t xo yo (.int k a) (.int k' b);binOp op t (.int k a) (.int k' b))= .ok v:=by
 cases op<;>simp only[shN,Option.some.injEq,reduceCtorEq]at hd<;>subst hd
 ·have:(do eqGuard .shl t xo yo (.int k a) (.int k' b);binOp .shl t (.int k a) (.int k' b):Sem Value)=Op.shift .shl k a k' b:=by
   cases k<;>cases k'<;>rfl
  rw[this,Op.shift,if_neg (by omega)];rfl
 ·have:(do eqGuard .shr t xo yo (.int k a) (.int k' b);binOp .shr t (.int k a) (.int k' b):Sem Value)=Op.shift .shr k a k' b:=by
   cases k<;>cases k'<;>rfl
  rw[this,Op.shift,if_neg (by omega)];rfl
theorem afA_{k:FloatKind}{a b:Nat}(h:(nanB k a||nanB k b)=true):k.format.order a b=none:=(j6_ h).2.2.2.2
theorem aas_{P:Program}(op:BinOp)(t:TypeId)(xo yo:Operand)(k:FloatKind)(a b:Nat)(q:Bool)(h:cmpF op k a b=some q):
  a9_ P (do eqGuard op t xo yo (.float k a) (.float k b);binOp op t (.float k a) (.float k b))= .ok (.bool q):=by
 cases op<;>simp only[cmpF,Option.some.injEq,reduceCtorEq]at h<;>subst h<;>cases k<;>rfl
theorem amx_{P:Program}{f:AFr}{st:ASt}{o:Oper}{op:BinOp}{t ty:TypeId}{x y:Operand}{k:FloatKind}{a b:Nat}{K:AN→Prop}(ho:o.op= .binOp op t x y ty)(hx:f.ev x= .float k a)(hy:f.ev y= .float k b)
  (h:fltN op k a b fun v=>K (.val v st)): ∃r,aOp P f st o= .ok r∧K r:=by
 have hs:N2_ k k=true:=by cases k<;>rfl
 unfold fltN at h
 split at h
 ·rename_i q hq
  refine⟨_,?_,h⟩
  cases hn:(nanB k a||nanB k b)with
  |true=>
   have ho':=afA_ hn
   have:n6_ op (.float k a) (.float k b)=some (.bool q):=by
    cases op<;>simp only[cmpF,Option.some.injEq,reduceCtorEq,ho']at hq<;>subst hq<;>simp only[n6_,hs,cond_true,hn]<;>rfl
   simp only[aOp,ho,hx,hy,this]
  |false=>
   have h0:n6_ op (.float k a) (.float k b)=none:=by
    cases op<;>simp only[cmpF,Option.some.injEq,reduceCtorEq]at hq<;>simp only[n6_,hs,cond_true,hn,cond_false,p8_]
   have hg:(ground 4 (.float k a)&&ground 4 (.float k b))=true:=by
    simp only[Bool.or_eq_false_iff]at hn
    simp[ground,hn.1,hn.2]
   have h1:aBin P op t x y (.float k a) (.float k b)= .ok (.ok (.bool q)):=by
    simp only[aBin,hg,cond_true,aas_ op t x y k a b q hq]
    rfl
   simp only[aOp,ho,hx,hy,h0,h1,Rs.bnd]
 ·rename_i hc
  cases hop:Q6_ op with
  |false=>rw[hop]at h;exact h.elim
  |true=>
   rw[hop]at h
   simp only[cond_true]at h
   refine⟨_,?_,h⟩
   have:n6_ op (.float k a) (.float k b)=some (.float k (ariR k op a b)):=by
    cases hn:(nanB k a||nanB k b)with
    |true=>
     obtain⟨n1,n2,n3,n4,_⟩:=j6_ hn
     cases op<;>simp[Q6_]at hop<;>simp only[n6_,hs,cond_true,hn,ariR,n1,n2,n3,n4,Option.getD_none]
    |false=>
     cases op<;>simp[Q6_]at hop<;>simp only[n6_,hs,cond_true,hn,cond_false,p8_,ariR]<;>split<;>simp_all
   simp only[aOp,ho,hx,hy,this]
theorem y8_{α β:Type}{P:Program}{x:Sem α}{f:α→Sem β}{a:α}(h:a9_ P x= .ok a):a9_ P (x>>=f)=a9_ P (f a):=by
 show a9_ P (x.bind f)=_
 induction x with
 |pure b=>simp only[a9_]at h;cases h;rfl
 |program k ih=>simp only[a9_]at h;simp only[Sem.bind,a9_];exact ih P h
 |mark m k ih=>simp only[a9_]at h;simp only[Sem.bind,a9_];exact ih h
 |halt e=>cases e<;>simp[a9_]at h
 |_=>simp[a9_]at h
theorem E8_{P:Program}{t:TypeId}{d:TypeDesc}(h:P.underlying t=some d):a9_ P (underlying t)= .ok d:=by
 show a9_ P (match P.underlying t with|some d=>pure d|none=>stuck "no such type")=_
 rw[h];rfl
theorem E9_{P:Program}{s d:TypeId}{ds:TypeDesc}{kd:IntKind}{k:FloatKind}{b:Nat}(hs:P.underlying s=some ds)(hd:P.underlying d=some (.int kd)):
  a9_ P (convert s d (.float k b))=a9_ P (Conv.floatToInt k b kd):=by
 unfold convert
 rw[y8_ (E8_ hs),y8_ (E8_ hd)]
set_option maxHeartbeats 1000000 in
theorem ajU_{P:Program}{f:AFr}{st:ASt}{o:Oper}{K:AN→Prop}(h:opN P f st o K): ∃r,aOp P f st o= .ok r∧K r:=by
 unfold opN at h
 split at h
 ·rename_i c a b ho
  split at h
  ·rename_i b' hb
   rcases br_elim h with⟨rfl,h⟩|⟨rfl,h⟩<;>exact⟨_,by simp only[aOp,ho,hb,cond_true,cond_false],h⟩
  ·exact h.elim
 ·rename_i op t x y ty ho
  split at h
  ·rename_i k a k' b hx hy
   cases hs:N2_ k k' with
   |false=>rw[hs]at h;exact h.elim
   |true=>
    rw[hs]at h
    have:=B1_ hs
    subst this
    exact amx_ ho hx hy h
  ·rename_i k a k' b hx hy
   split at h
   ·rename_i v hv
    obtain⟨h1,h2⟩:=ne_ h
    simp only[Bool.and_eq_true,Bool.not_eq_true',decide_eq_true_eq,decide_eq_false_iff_not]at h1
    obtain⟨rfl,hb⟩:=h1
    refine⟨_,?_,h2⟩
    have hr:w5_ v=true:=by
     cases op<;>simp only[divN,Option.some.injEq,reduceCtorEq]at hv<;>subst hv<;>rfl
    have h3:aBin P op t x y (.int k a) (.int k b)= .ok (.ok v):=by
     simp only[aBin,ground,Bool.and_self,cond_true,aar_ op t x y k a b v hv hb,hr]
    simp only[aOp,ho,hx,hy,n6_,h3,Rs.bnd]
   ·split at h
    ·rename_i v hv
     obtain⟨h1,h2⟩:=ne_ h
     have hb:0≤b:=of_decide_eq_true h1
     refine⟨_,?_,h2⟩
     have hr:w5_ v=true:=by
      cases op<;>simp only[shN,Option.some.injEq,reduceCtorEq]at hv<;>subst hv<;>rfl
     have h3:aBin P op t x y (.int k a) (.int k' b)= .ok (.ok v):=by
      simp only[aBin,ground,Bool.and_self,cond_true,acP_ op t x y k k' a b v hv hb,hr]
     simp only[aOp,ho,hx,hy,n6_,h3,Rs.bnd]
    ·exact rK_ h
  ·exact rK_ h
 ·rename_i op t x ho
  split at h
  ·rename_i a hx
   split at h
   ·refine⟨_,?_,h⟩
    simp only[aOp,ho,hx,ajr_,negR]
    cases nanB .f64 a<;>rfl
   ·exact h.elim
  ·exact rK_ h
 ·rename_i s d x ho
  split at h
  ·rename_i k b hx
   split at h
   ·rename_i ds kd hs hd
    obtain⟨h1,h⟩:=ne_ h
    obtain⟨h2,h⟩:=ne_ h
    refine⟨_,?_,h⟩
    have hu:undL P s= .ok ds:=by simp only[undL,hs]
    have hu2:undL P d= .ok (.int kd):=by simp only[undL,hd]
    have hg:ground 1 (.float k b)=true:=by simpa [ground]using h1
    cases hq:(k.decode b).toInt .zero with
    |none=>rw[hq]at h2;cases h2
    |some n=>
     rw[hq]at h2
     have h3:=of_decide_eq_true h2
     have h4:a9_ P (convert s d (.float k b))= .ok (.int kd n):=by
      have e1:a9_ P (Conv.floatToInt k b kd)= .ok (.int kd n):=by
       simp only[Conv.floatToInt,hq,if_pos h3];rfl
      rw[←e1]
      exact E9_ hs hd
     have h5:abc_ P st s d (.float k b)= .ok (.val (.int kd n) st):=by
      simp only[abc_,hu,hu2,Rs.bnd,hg,cond_true,h4]
      rfl
     simp only[aOp,ho,hx,h5,Option.getD_some]
   ·exact h.elim
  ·rename_i b0 i0 n c hx
   obtain⟨ds,h1,h⟩:=rK_ h
   obtain⟨dd,h2,h⟩:=rK_ h
   split at h
   ·rename_i e
    obtain⟨u,h3,h⟩:=rK_ h
    split at h
    ·rename_i own es lo m g hg
     cases he:Nat.beq es 1 with
     |false=>rw[he]at h;exact h.elim
     |true=>
      rw[he]at h
      obtain⟨h4,h⟩:=ne_ h
      obtain⟨h5,h⟩:=ne_ h
      have h6:abc_ P st s d (.slice (some ⟨b0,0,some i0⟩) n c)= .ok (.val (.string (s1_ n fun j=>g (i0+j))) st):=by
       simp only[abc_,h1,h2,Rs.bnd,h3,hg,he,cond_true,h4,h5]
      exact⟨_,by simp only[aOp,ho,hx,h6],h⟩
    ·exact h.elim
   ·exact h.elim
  ·exact rK_ h
 ·rename_i t a x ho
  split at h
  ·rename_i a0 ha
   obtain⟨n,hn,h⟩:=rK_ h
   cases hb:Nat.beq (e7_ (f.ev x)).length n with
   |false=>rw[hb]at h;exact h.elim
   |true=>
    rw[hb]at h
    simp only[cond_true]at h
    obtain⟨st',h1,h2⟩:=adA_ h
    exact⟨_,by simp only[aOp,ho,ha,hn,Rs.bnd,hb,cond_true,h1],h2⟩
  ·exact h.elim
 ·rename_i t x i ho
  split at h
  ·rename_i ki n hi
   obtain⟨i',rfl,h⟩:=l6_ h
   obtain⟨d,hd,h⟩:=rK_ h
   split at h
   ·rename_i e b0 o0 n c hx
    obtain⟨s,hs,h⟩:=rK_ h
    obtain⟨h1,h⟩:=agn_ h
    have h1:Nat.blt i' _=true:=h1
    exact⟨_,by simp only[aOp,ho,hi,hd,hx,hs,Rs.bnd,h1,cond_true];rfl,h⟩
   ·rename_i e b0 i0 n c hx
    obtain⟨s,hs,h⟩:=rK_ h
    split at h
    ·rename_i own es lo m elem hg
     cases he:Nat.beq es s with
     |false=>rw[he]at h;exact h.elim
     |true=>
      rw[he]at h
      obtain⟨h1,h⟩:=ne_ h
      have h1:Nat.blt i' _=true:=h1
      exact⟨_,by simp only[aOp,ho,hi,hd,hx,hs,Rs.bnd,hg,he,h1,cond_true];rfl,h⟩
    ·exact h.elim
   ·rename_i n e b0 o0 hx
    obtain⟨s,hs,h⟩:=rK_ h
    obtain⟨h1,h⟩:=ne_ h
    have h1:Nat.blt i' _=true:=h1
    exact⟨_,by simp only[aOp,ho,hi,hd,hx,hs,Rs.bnd,h1,cond_true];rfl,h⟩
   ·rename_i n e b0 o0 i0 hx
    obtain⟨s,hs,h⟩:=rK_ h
    obtain⟨h1,h⟩:=ne_ h
    have h1:Nat.blt i' _=true:=h1
    exact⟨_,by simp only[aOp,ho,hi,hd,hx,hs,Rs.bnd,h1,cond_true];rfl,h⟩
   ·exact h.elim
  ·exact h.elim
 ·rename_i t l c ho
  cases hrow:ahT_ c with
  |false=>
   rw[hrow]at h
   exact rK_ h
  |true=>
   rw[hrow]at h
   simp only[cond_true]at h
   split at h
   ·rename_i k1 x k2 y hx hy
    obtain⟨l',hl',h9⟩:=l6_ h
    clear h
    obtain⟨c',hc',h8⟩:=l6_ h9
    clear h9
    subst hl' hc'
    obtain⟨d,hd,h⟩:=rK_ h8
    clear h8
    split at h
    ·rename_i e
     obtain⟨z,hz,h⟩:=rK_ h
     obtain⟨n,hn,h⟩:=rK_ h
     obtain⟨b,hb,h⟩:=rK_ h
     cases hc:(Nat.ble b 1000000&&Nat.beq z.length n&&z.all zOk)with
     |false=>rw[hc]at h;exact h.elim
     |true=>
      rw[hc]at h
      obtain⟨h1,h⟩:=ne_ h
      have h2:(Nat.beq l' c'&&Nat.ble c' 1000000&&Nat.ble b 1000000&&Nat.beq z.length n&&z.all zOk)=true:=by
       simp only[Bool.and_eq_true]at h1 hc ⊢
       exact⟨⟨⟨⟨h1.1,h1.2⟩,hc.1.1⟩,hc.1.2⟩,hc.2⟩
      exact⟨_,by simp only[aOp,ho,hx,hy,hd,hz,hn,hb,Rs.bnd,hrow,h2,cond_true],h⟩
    ·exact h.elim
   ·exact h.elim
 ·rename_i t a ho
  split at h
  ·rename_i a0 ha
   obtain⟨n,hn,h⟩:=rK_ h
   obtain⟨l,st',hl,h⟩:=aia_ h
   obtain⟨v,hv,h⟩:=rK_ h
   exact⟨_,by simp only[aOp,ho,ha,hn,hl,hv,Rs.bnd],h⟩
  ·exact h.elim
 ·rename_i t x lo hi mx ho
  split at h
  ·rename_i b0 i0 len cap hx
   obtain⟨d,hd,h⟩:=rK_ h
   split at h
   ·rename_i e
    obtain⟨r1,h1,h⟩:=adq_ h
    obtain⟨r2,h2,h⟩:=agF_ h
    obtain⟨s,hs,h⟩:=rK_ h
    split at h
    ·rename_i own es lo' m elem hg
     cases he:Nat.beq es s with
     |false=>rw[he]at h;exact h.elim
     |true=>
      rw[he]at h
      exact⟨_,by simp only[aOp,ho,aSlice,hd,hx,h1,h2,hs,Rs.bnd,hg,he,cond_true],h⟩
    ·exact h.elim
   ·exact h.elim
  ·exact rK_ h
 ·rename_i t x i ok ho
  obtain⟨d,hd,h⟩:=rK_ h
  split at h
  ·rename_i kt et
   split at h
   ·rename_i kk vk es hm
    obtain⟨v,hv,h⟩:=rK_ h
    exact⟨_,by simp only[aOp,ho,hd,hm,hv,Rs.bnd],h⟩
   ·rename_i hm
    obtain⟨u,hu,h⟩:=rK_ h
    obtain⟨es,he,h⟩:=rK_ h
    obtain⟨u2,hk,h⟩:=rK_ h
    obtain⟨r,hr,h⟩:=aci_ h
    obtain⟨z,hz,h⟩:=rK_ h
    exact⟨_,by simp only[aOp,ho,hd,hm,hu,he,hk,hr,hz,Rs.bnd],h⟩
  ·exact h.elim
 ·rename_i c ho
  split at h
  ·rename_i g hc
   split at h
   ·rename_i fid a b hg
    obtain⟨r,h1,h2⟩:=amC_ h
    exact⟨r,by simp only[aOp,ho,hc,hg,aInvoke,h1],h2⟩
   ·exact h.elim
  ·rename_i hc
   obtain⟨r,h1,h2⟩:=amX_ h
   exact⟨r,by simp only[aOp,ho,hc,aBuiltin,h1],h2⟩
  ·exact rK_ h
 ·exact rK_ h
end Go.Proofs.YtachglcffimmeaaGreat.Ev
