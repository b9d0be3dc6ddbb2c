/-
  An evaluator of the program's code over memory that is named by numbers of its own: what it answers is what every run answers (XEvS).
-/
import Derived.Test.YtachglcffimmeaaGreatRows
set_option linter.unusedVariables false
namespace Go.Proofs.YtachglcffimmeaaGreat.Ev
open Go
inductive Rs (α:Type) where
 |ok (a:α)
 |er (why:String) (place:String:= "")
def Rs.bnd{α β:Type}(x:Rs α)(f:α→Rs β):Rs β:=match x with
 | .ok a=>f a
 | .er s p=> .er s p
def Rs.of{α:Type}(why:String)(x:Option α):Rs α:=match x with
 |some a=> .ok a
 |none=> .er why
inductive Tr (α:Type) where
 |leaf
 |node (v:Option α) (l r:Tr α)
def Tr.get{α:Type}:Tr α→Nat→Option α
 | .leaf,_=>none
 | .node v l r,k=>cond (Nat.beq k 0) v (cond (Nat.beq (k%2) 1) (l.get (k/2)) (r.get (k/2-1)))
def Tr.put{α:Type}:Nat→Tr α→Nat→Option α→Tr α
 |0,t,_,_=>t
 |f+1,.leaf,k,x=>cond (Nat.beq k 0) (.node x .leaf .leaf) (cond (Nat.beq (k%2) 1) (.node none (Tr.put f .leaf (k/2) x) .leaf) (.node none .leaf (Tr.put f .leaf (k/2-1) x)))
 |f+1,.node v l r,k,x=>cond (Nat.beq k 0) (.node x l r) (cond (Nat.beq (k%2) 1) (.node v (Tr.put f l (k/2) x) r) (.node v l (Tr.put f r (k/2-1) x)))
def Tr.set{α:Type}(t:Tr α)(k:Nat)(x:Option α):Tr α:=Tr.put (Nat.log2 k+2) t k x
def nanB(k:FloatKind)(b:Nat):Bool:=(k.format.order b b).isNone
def ground:Nat→Value→Bool
 |_,.float k b=> !(nanB k b)
 |_,.bool _|_,.int .. |_,.string _|_,.pointer none|_,.slice none 0 0|_,.map none|_,.nilFunc|_,.nilIface=>true
 |n+1,.iface _ v=>ground n v
 |n+1,.agg vs|n+1,.tuple vs=>vs.toList.all (ground n)
 |n+1,.func _ a b=>a.toList.all (ground n)&&b.toList.all (ground n)
 |_,_=>false
def w5_:Value→Bool
 | .float _ _=>true
 |v=>ground 1 v
def oneC:Value→Bool
 | .agg _| .tuple _| .chan _=>false
 |_=>true
def bad0:Value:= .chan none
inductive Td where
 |sc (x:Value)
 |fr (es n c:Nat) (elem:Nat→Nat→Td)
inductive Rk where
 |mine
 |look
 |still
inductive Kk where
 |i (k:IntKind)
 |s
 |is (l:List IntKind)
inductive Vk where
 |b
 |i (k:IntKind)
def fitL:List IntKind→List Value→Bool
 |[],[]=>true
 |k::l,.int k' _::vs=>decide (k=k')&&fitL l vs
 |_,_=>false
def c6_:Kk→Value→Bool
 | .i k,.int k' _=>decide (k=k')
 | .s,.string _=>true
 | .is l,.agg vs=>fitL l vs.toList
 |_,_=>false
def i8_:Vk→Value→Bool
 | .b,.bool _=>true
 | .i k,.int k' _=>decide (k=k')
 |_,_=>false
def aaC_:List Value→List Value→Bool
 | .int _ a::l,.int _ b::m=>(a==b)&&aaC_ l m
 |_,_=>true
def keyB:Value→Value→Bool
 | .int _ a,.int _ b=>a==b
 | .string a,.string b=>a==b
 | .agg a,.agg b=>aaC_ a.toList b.toList
 |_,_=>false
def hasK(k:Value):List (Value×Value)→Bool
 |[]=>false
 |p::l=>keyB k p.1||hasK k l
def getK(k z:Value):List (Value×Value)→Value
 |[]=>z
 |p::l=>cond (keyB k p.1) p.2 (getK k z l)
def putK(k v:Value):List (Value×Value)→List (Value×Value)
 |[]=>[(k,v)]
 |p::l=>cond (keyB k p.1) ((k,v)::l) (p::putK k v l)
def amL_:Value→Bool
 | .bool b=>b
 |_=>false
def intV:Value→Int
 | .int _ n=>n
 |_=>0
inductive AObj where
 |cells (cs:List Value) (ex:Bool) (es:Nat)
 |old (cs:List Value) (ex:Bool) (es:Nat)
 |row (k:Rk) (es lo n:Nat) (elem:Nat→Nat→Td)
 |map (es:List MapEntry) (clock:Nat)
 |omap (kk:Kk) (vk:Vk) (es:List (Value×Value))
 |iter (s:ByteArray) (pos:Nat)
structure ASt where
 next:Nat
 h:Tr AObj
 lo:Nat
structure ADef where
 fn:Fn
 cap:List Value
 args:List Value
structure AFr where
 n:Nat
 tmps:Tr Value
 defers:List ADef
def AFr.put(f:AFr)(d:Option Nat)(v:Value):AFr:=match d with
 |some d=>cond (Nat.blt d f.n) ⟨f.n,f.tmps.set d (some v),f.defers⟩ f
 |none=>f
def bad:Value:= .chan none
def AFr.tmp(f:AFr)(t:Nat):Value:=match f.tmps.get t with
 |some v=>v
 |none=>bad
def AFr.ev(f:AFr):Operand→Value
 | .tmp t=>f.tmp t
 | .const v=>cond (ground 3 v) v bad
 | .global _=>bad
 | .func f=> .func (.func f) #[] #[]
def ASt.new(st:ASt)(o:AObj):ASt:=⟨st.next+1,st.h.set st.next (some o),st.lo⟩
def maxN(a b:Nat):Nat:=cond (Nat.ble a b) b a
def minN(a b:Nat):Nat:=cond (Nat.ble a b) a b
def ASt.set(st:ASt)(a:Nat)(o:Option AObj):ASt:=⟨st.next,st.h.set a o,minN st.lo a⟩
def s0_:Nat→List Value→Option (List Value)
 |0,_=>some []
 |n+1,v::l=>match s0_ n l with
  |some r=>some (v::r)
  |none=>none
 |_+1,[]=>none
def H3_:Nat→List Value→List Value
 |0,l=>l
 |n+1,_::l=>H3_ n l
 |_+1,[]=>[]
def layL:Nat→List Value→List Value→Option (List Value)
 |_,[],l=>some l
 |0,v::vs,_::l=>match layL 0 vs l with
  |some r=>some (v::r)
  |none=>none
 |n+1,vs,x::l=>match layL n vs l with
  |some r=>some (x::r)
  |none=>none
 |_,_::_,[]=>none
def abx_:IntKind→IntKind→Bool
 | .i64,.i64| .u8,.u8| .i32,.i32| .u64,.u64| .u32,.u32| .i16,.i16| .u16,.u16| .i8,.i8=>true
 |_,_=>false
def aby_:FloatKind→FloatKind→Bool
 | .f32,.f32| .f64,.f64=>true
 |_,_=>false
def mrgV(b:Bool)(v w:Value):Value:=match v,w with
 | .int k n,.int k' m=>cond (abx_ k k') (.int k (cond b n m)) bad0
 | .bool p,.bool q=> .bool (cond b p q)
 | .float k x,.float k' y=>cond (aby_ k k') (.float k (cond b x y)) bad0
 | .string p,.string q=> .string (cond b p q)
 |v,w=>cond b v w
def noT(_ _:Nat):Td:= .sc bad0
def g0_(es n es' n':Nat):Bool:=Nat.beq es es'||(Nat.beq es 0&&Nat.beq n 0)||(Nat.beq es' 0&&Nat.beq n' 0)
def mrgT(b:Bool):Td→Td→Td
 | .sc x,.sc y=> .sc (mrgV b x y)
 | .fr es n c e,.fr es' n' c' e'=>cond (g0_ es n es' n') (.fr (cond (Nat.beq es 0) es' es) (cond b n n') (cond b c c') fun i j=>mrgT b (e i j) (e' i j)) (cond b (.fr es n c e) (.fr es' n' c' e'))
 |t,u=>cond b t u
def z9_(e:Nat→Td):Nat→Nat→List Td
 |_,0=>[]
 |off,n+1=>e off::z9_ e (off+1) n
def nthT:List Td→Nat→Td
 |[],_=> .sc bad0
 |t::_,0=>t
 |_::l,n+1=>nthT l n
def I8_:Nat→List Td→List Td
 |0,l=>l
 |n+1,_::l=>I8_ n l
 |_+1,[]=>[]
def selT(es:Nat):Nat→List Td→Nat→Nat→Td
 |0,_,_,_=> .sc bad0
 |1,ts,_,j=>nthT ts j
 |n+1,ts,i,j=>mrgT (Nat.beq i 0) (nthT ts j) (selT es n (I8_ es ts) (i-1) j)
def putT(i off:Nat)(ts:List Td)(elem:Nat→Nat→Td)(k j:Nat):Td:=cond (Nat.ble off j&&Nat.blt j (off+ts.length)) (mrgT (Nat.beq k i) (nthT ts (j-off)) (elem k j)) (elem k j)
def E3_(es:Nat)(elem:Nat→Nat→Td):Nat→Nat→List Td
 |_,0=>[]
 |i,c+1=>z9_ (elem i) 0 es++E3_ es elem (i+1) c
def seeT:List Td→ASt→List Value×ASt
 |[],st=>([],st)
 | .sc x::l,st=>match seeT l st with
  |(vs,st')=>(x::vs,st')
 | .fr es n c e::l,st=>match seeT l (st.new (.row .still es 0 n e))with
  |(vs,st')=>(.slice (some ⟨st.next,0,some 0⟩) n c::vs,st')
def ASt.readC(st:ASt)(a:Addr)(n:Nat):Rs (List Value):=match st.h.get a.block with
 |some (.cells cs _ _)=>match a.spot with
  |none=>Rs.of "read" (s0_ n (H3_ a.off cs))
  |some _=> .er "spot"
 |some (.old cs _ _)=>match a.spot with
  |none=>Rs.of "read" (s0_ n (H3_ a.off cs))
  |some _=> .er "spot"
 |_=> .er "read: no cells"
def ASt.readT(st:ASt)(a:Addr)(n:Nat):Rs (List Td):=match st.h.get a.block with
 |some (.row _ es lo m elem)=>match a.spot with
  |some i=>cond (Nat.beq a.off 0&&Nat.blt es n) (cond (Nat.ble lo i&&Nat.ble (i+n/es) m&&Nat.beq (n/es*es) n) (.ok (E3_ es elem i (n/es))) (.er "read: beyond"))
   (cond (Nat.ble (a.off+n) es) (cond (Nat.ble lo i&&Nat.blt i m) (.ok (z9_ (elem i) a.off n)) (.er "read: beyond")) (.er "read: element"))
  |none=> .er "spot"
 |_=> .er "read: no row"
def isRow(o:Option AObj):Bool:=match o with
 |some (.row ..)=>true
 |_=>false
def ASt.read(st:ASt)(a:Addr)(n:Nat):Rs (List Value×ASt):=cond (isRow (st.h.get a.block)) ((st.readT a n).bnd fun ts=> .ok (seeT ts st)) ((st.readC a n).bnd fun l=> .ok (l,st))
def froze(st:ASt)(b:Nat):Rs ASt:=match st.h.get b with
 |some (.row .mine es lo n e)=> .ok ⟨st.next+1,st.h.set b (some (.row .still es lo n e)),minN st.lo b⟩
 |some (.row .still ..)=> .ok st
 |some (.cells cs ex es)=> .ok ⟨st.next+1,st.h.set b (some (.old cs ex es)),minN st.lo b⟩
 |some (.old ..)=> .ok st
 |_=> .er "froze"
def s2_(v:Value):Bool:=match v with
 | .float .. =>true
 |v=>ground 3 v&&oneC v
def toTs(g:Value→ASt→Rs (Td×ASt)):List Value→ASt→Rs (List Td×ASt)
 |[],st=> .ok ([],st)
 |v::l,st=>(g v st).bnd fun r=>match r with
  |(t,st1)=>(toTs g l st1).bnd fun q=>match q with
   |(ts,st2)=> .ok (t::ts,st2)
def L6_(o:Option AObj):Option (List Value×Nat):=match o with
 |some (.cells cs _ es)=>some (cs,es)
 |some (.old cs _ es)=>some (cs,es)
 |_=>none
def toT:Nat→Value→ASt→Rs (Td×ASt)
 |0,_,_=> .er "toT"
 |f+1,v,st=>match v with
  | .slice none 0 0=> .ok (.fr 0 0 1 noT,st)
  | .slice (some ⟨b,0,some i0⟩) n c=>match st.h.get b with
   |some (.row _ es lo m g)=>cond (Nat.ble lo i0&&Nat.ble (i0+n) m) ((froze st b).bnd fun st'=> .ok (.fr es n c fun i=>g (i0+i),st')) (.er "toT: beyond")
   |_=> .er "toT: row"
  | .slice (some ⟨b,o,none⟩) n _=>match L6_ (st.h.get b)with
   |some (cs,es)=>cond ((Nat.blt 0 es||Nat.beq n 0)&&Nat.ble (o+n*es) cs.length) ((Rs.of "toT" (s0_ (n*es) (H3_ o cs))).bnd fun l=>(toTs (toT f) l st).bnd fun r=>match r with
    |(ts,st1)=>(froze st1 b).bnd fun st'=> .ok (.fr es n 0 (selT es n ts),st')) (.er "toT: cells")
   |none=> .er "toT: cells"
  |v=>cond (s2_ v) (.ok (.sc v,st)) (.er "toT: value")
def zT(v:Value):Td:=match v with
 | .slice none 0 0=> .fr 0 0 1 noT
 |v=> .sc v
def zOk(v:Value):Bool:=match v with
 | .slice none 0 0=>true
 |v=>s2_ v
def ahT_(c:Operand):Bool:=match c with
 | .const _=>false
 |_=>true
def ASt.writeR(st:ASt)(a:Addr)(ts:List Td):Rs ASt:=match st.h.get a.block with
 |some (.row .mine es lo n elem)=>match a.spot with
  |some i=>cond (Nat.ble (a.off+ts.length) es) (cond (Nat.blt i n) (.ok (st.set a.block (some (.row .mine es lo n (putT i a.off ts elem))))) (.er "write: beyond")) (.er "write: element")
  |none=> .er "write: spot"
 |_=> .er "write: no row"
def ASt.writeC(st:ASt)(a:Addr)(vs:List Value):Rs ASt:=match st.h.get a.block with
 |some (.cells cs ex es)=>match a.spot,layL a.off vs cs with
  |none,some cs'=>cond (vs.all oneC) (.ok (st.set a.block (some (.cells cs' ex es)))) (.er "write: values")
  |_,_=> .er "write"
 |_=> .er "write: no cells"
def ASt.write(st:ASt)(a:Addr)(vs:List Value):Rs ASt:=cond (isRow (st.h.get a.block)) ((toTs (toT 4) vs st).bnd fun r=>match r with
  |(ts,st1)=>st1.writeR a ts) (st.writeC a vs)
inductive AN where
 |val (v:Value) (st:ASt)
 |enter (f:FuncId) (args:List Value)
 |defer (d:ADef)
 |panic (v:Value)
inductive Pr (α:Type) where
 |ok (a:α)
 |panic (v:Value)
 |no
def a9_{α:Type}(P:Program):Sem α→Pr α
 | .pure a=> .ok a
 | .program k=>a9_ P (k P)
 | .mark _ k=>a9_ P k
 | .halt (.panic v)=> .panic v
 |_=> .no
def i6_(P:Program)(t:TypeId):Rs (List Value):=match(P.info? t)with
 |some i=>match i.zero with
  |some z=>cond (z.cells.toList.all (ground 2)) (.ok z.cells.toList) (.er "zero: ground")
  |none=> .er "zero"
 |none=> .er "zero"
def I0_(P:Program)(t:TypeId):Rs Value:=match(P.info? t)with
 |some i=>match i.zero with
  |some z=>cond (ground 3 z) (.ok z) (.er "zero: ground")
  |none=> .er "zero"
 |none=> .er "zero"
def b3_(P:Program)(t:TypeId):Rs Nat:=match P.info? t with
 |some i=> .ok i.size
 |none=> .er "size"
def m1_(P:Program)(t:TypeId):Rs Nat:=match P.info? t with
 |some i=> .ok i.bytes
 |none=> .er "bytes"
def undL(P:Program)(t:TypeId):Rs TypeDesc:=match P.underlying t with
 |some d=> .ok d
 |none=> .er "und"
def aggL(P:Program)(t:TypeId):Rs Bool:=(undL P t).bnd fun d=>match d with
 | .struct _| .array _ _=> .ok true
 |_=> .ok false
def aaf_(P:Program)(t:TypeId)(cs:List Value):Rs Value:=(aggL P t).bnd fun b=>match b,cs with
 |true,cs=> .ok (.agg cs.toArray)
 |false,[v]=> .ok v
 |false,_=> .er "shut"
def acR_(P:Program)(t:TypeId)(cs:List Value)(off:Nat):Rs Value:=
 (b3_ P t).bnd fun n=>(Rs.of "part" (s0_ n (H3_ off cs))).bnd fun l=>aaf_ P t l
def e7_(v:Value):List Value:=match v with
 | .agg cs=>cs.toList
 |v=>[v]
def repL(z:List Value):Nat→List Value
 |0=>[]
 |n+1=>z++repL z n
def p4_(P:Program)(s:TypeId)(f:Nat):Rs Field:=(undL P s).bnd fun d=>match d with
 | .struct fields=>Rs.of "field" (fields.toList[f]?)
 |_=> .er "field: struct"
def aNil(d:TypeDesc)(x y:Value):Option Bool:=match d,x,y with
 | .slice _,.slice none _ _,.slice none _ _=>some true
 | .slice _,.slice none _ _,.slice (some ⟨_,_,none⟩) _ _=>some false
 | .slice _,.slice none _ _,.slice (some ⟨_,0,some _⟩) n c=>some (Nat.beq n 0&&Nat.beq c 1)
 | .slice _,.slice (some ⟨_,_,none⟩) _ _,.slice none _ _=>some false
 | .slice _,.slice (some ⟨_,0,some _⟩) n c,.slice none _ _=>some (Nat.beq n 0&&Nat.beq c 1)
 | .map _ _,.map none,.map b=>some b.isNone
 | .map _ _,.map (some _),.map none=>some false
 | .pointer _,.pointer none,.pointer b=>some b.isNone
 | .pointer _,.pointer (some _),.pointer none=>some false
 | .interface _,.nilIface,.iface _ _=>some false
 | .interface _,.iface _ _,.nilIface=>some false
 | .func _ _ _,.nilFunc,.func _ _ _=>some false
 | .func _ _ _,.func _ _ _,.nilFunc=>some false
 |_,_,_=>none
def isEq(op:BinOp):Option Bool:=match op with
 | .eql=>some true
 | .neq=>some false
 |_=>none
def aStr(op:BinOp)(a b:ByteArray):Option Value:=match op with
 | .add=>cond (Nat.ble (a.size+b.size) 1000000000) (some (.string ⟨(a.data.toList++b.data.toList).toArray⟩)) none
 | .eql=>some (.bool (a.data.toList==b.data.toList))
 | .neq=>some (.bool (!(a.data.toList==b.data.toList)))
 | .lss=>some (.bool (Op.bytesLess a.data.toList b.data.toList))
 | .leq=>some (.bool (Op.bytesLess a.data.toList b.data.toList||a.data.toList==b.data.toList))
 | .gtr=>some (.bool (!(Op.bytesLess a.data.toList b.data.toList||a.data.toList==b.data.toList)))
 | .geq=>some (.bool (!(Op.bytesLess a.data.toList b.data.toList)))
 |_=>none
def aBin(P:Program)(op:BinOp)(t:TypeId)(xo yo:Operand)(x y:Value):Rs (Pr Value):=match x,y with
 | .string a,.string b=>match aStr op a b with
  |some v=> .ok (.ok v)
  |none=> .er "string op"
 |x,y=>cond (ground 4 x&&ground 4 y)
  (match a9_ P (do eqGuard op t xo yo x y;binOp op t x y)with
   | .ok v=>cond (w5_ v) (.ok (.ok v)) (.er "bin: nan")
   | .panic v=>cond (ground 3 v) (.ok (.panic v)) (.er "bin: panic")
   | .no=> .er "bin")
  (match isEq op with
   |some q=>(undL P t).bnd fun d=>match aNil d x y with
    |some b=> .ok (.ok (.bool (b==q)))
    |none=> .er "eq"
   |none=> .er "bin: ground")
def qnan:FloatKind→Nat
 | .f32=>2143289344
 | .f64=>9221120237041090560
def N2_:FloatKind→FloatKind→Bool
 | .f32,.f32| .f64,.f64=>true
 |_,_=>false
def p8_(k:FloatKind)(op:BinOp)(a b:Nat):Option (Option Nat):=match op with
 | .add=>some (k.format.add a b)
 | .sub=>some (k.format.sub a b)
 | .mul=>some (k.format.mul a b)
 | .quo=>some (k.format.div a b)
 |_=>none
def n6_(op:BinOp)(x y:Value):Option Value:=match x,y with
 | .float k a,.float k' b=>cond (N2_ k k')
  (cond (nanB k a||nanB k b)
   (match op with
    | .add| .sub| .mul| .quo=>some (.float k (qnan k))
    | .eql| .lss| .leq| .gtr| .geq=>some (.bool false)
    | .neq=>some (.bool true)
    |_=>none)
   (match p8_ k op a b with
    |some none=>some (.float k (qnan k))
    |some (some r)=>some (.float k r)
    |none=>none)) none
 |_,_=>none
def ajr_(op:UnOp)(x:Value):Option Value:=match op,x with
 | .neg,.float .f64 a=>some (cond (nanB .f64 a) (.float .f64 (qnan .f64)) (.float .f64 (Op.negFloat .f64 a)))
 |_,_=>none
def d2_(x:Option Value)(dflt:Nat)(most:Nat):Rs Nat:=match x with
 |none=> .ok dflt
 |some (.int _ (.ofNat i))=>cond (Nat.ble i most) (.ok i) (.er "bound")
 |_=> .er "bound"
def aSlice(P:Program)(st:ASt)(t:TypeId)(x:Value)(lo hi:Option Value):Rs Value:=(undL P t).bnd fun d=>match d,x with
 | .string,.string s=>(d2_ hi s.size s.size).bnd fun h=>(d2_ lo 0 h).bnd fun l=> .ok (.string ⟨((s.data.toList.take h).drop l).toArray⟩)
 | .slice elem,.slice none 0 0=>(d2_ hi 0 0).bnd fun _=>(d2_ lo 0 0).bnd fun _=>(b3_ P elem).bnd fun _=> .ok (.slice none 0 0)
 | .slice elem,.slice (some ⟨b0,o0,none⟩) len cap=>(d2_ hi len cap).bnd fun h=>(d2_ lo 0 h).bnd fun l=>(b3_ P elem).bnd fun s=>match st.h.get b0 with
  |some (.cells _ true _)=> .ok (.slice (some (cond (Nat.beq cap l) ⟨b0,o0,none⟩ ((⟨b0,o0,none⟩:Addr).add (l*s)))) (h-l) (cap-l))
  |some (.cells _ false es)=>cond (Nat.beq es s) (.ok (.slice (some ((⟨b0,o0,none⟩:Addr).add (l*s))) (h-l) (cap-l))) (.er "slice: size")
  |_=> .er "slice: row"
 | .slice elem,.slice (some ⟨b0,0,some i0⟩) len cap=>(d2_ hi len len).bnd fun h=>(d2_ lo 0 h).bnd fun l=>(b3_ P elem).bnd fun s=>match st.h.get b0 with
  |some (.row _ es _ _ _)=>cond (Nat.beq es s) (.ok (.slice (some ⟨b0,0,some (i0+l)⟩) (h-l) (cond (Nat.beq len 0) cap 0))) (.er "slice: size")
  |_=> .er "slice: row"
 |_,_=> .er "slice"
def ach_(st:ASt)(size:Nat)(x:Value):Rs (Nat×List Value):=match x with
 | .slice none _ _=> .ok (0,[])
 | .slice (some a) n _=>(st.readC a (n*size)).bnd fun l=> .ok (n,l)
 | .string s=>cond (Nat.beq size 1) (.ok (s.size,s.data.toList.map fun b=> .int .u8 b.toNat)) (.er "first: string")
 |_=> .er "first"
def I4_(P:Program)(st:ASt)(d2:TypeDesc)(elem:TypeId)(size:Nat)(x:Value):Rs (Nat×List Value):=match d2 with
 | .int _=>match x with
  | .int _ (.ofNat n)=>cond (Nat.ble n 1000000) ((i6_ P elem).bnd fun z=> .ok (n,repL z n)) (.er "append of make: long")
  |_=> .er "append of make"
 |_=>ach_ st size x
def Q9_(P:Program)(st:ASt)(ts:List TypeId)(args:List Value):Rs AN:=match ts,args with
 |t::t2::_,[s,x]=>(undL P t).bnd fun d=>(undL P t2).bnd fun d2=>match d,s with
  | .slice elem,.slice base len cap=>(b3_ P elem).bnd fun size=>(m1_ P elem).bnd fun by_=>(i6_ P elem).bnd fun z=>(I4_ P st d2 elem size x).bnd fun nn=>
   cond (Nat.ble (len+nn.1) 1000000&&Nat.ble by_ 1000000&&Nat.beq z.length size)
   (cond (Nat.ble (len+nn.1) cap)
    (match base with
     |none=> .ok (.val (.slice none len cap) st)
     |some ⟨b0,o0,none⟩=>(st.writeC ((⟨b0,o0,none⟩:Addr).add (len*size)) nn.2).bnd fun st'=> .ok (.val (.slice (some ⟨b0,o0,none⟩) (len+nn.1) cap) st')
     |some _=> .er "append: row")
    (match base with
     |none=> .ok (.val (.slice (some ⟨st.next,0,none⟩) nn.1 nn.1) (st.new (.cells nn.2 false size)))
     |some ⟨b0,o0,none⟩=>(st.readC ⟨b0,o0,none⟩ (len*size)).bnd fun old=>match st.h.get b0 with
      |some (.cells _ true _)=> .ok (.val (.slice (some ⟨st.next,0,none⟩) (len+nn.1) (len+nn.1)) (st.new (.cells (old++nn.2) false size)))
      |some (.cells _ false es)=>cond (Nat.beq es size&&nn.2.all oneC) (.ok (.val (.slice (some ⟨st.next,0,none⟩) (len+nn.1) (len+nn.1)) ((st.set b0 none).new (.cells (old++nn.2) false size)))) (.er "append: size")
      |_=> .er "append: row"
     |some _=> .er "append: row")) (.er "append: too long")
  |_,_=> .er "append"
 |_,_=> .er "append"
def strB(s:ByteArray)(i:Nat):Nat:=(s.data.toList.getD i 0).toNat
def srcF(P:Program)(st:ASt)(d2:TypeDesc)(elem:TypeId)(size:Nat)(x:Value):Rs (Nat×(Nat→Nat→Td)×ASt):=match x with
 | .int _ (.ofNat n)=>match d2 with
  | .int _=>cond (Nat.ble n 1000000) ((i6_ P elem).bnd fun z=>cond (z.all zOk) (.ok (n,(fun _ j=>nthT (z.map zT) j),st)) (.er "append of make: zeros")) (.er "append of make: long")
  |_=> .er "append of make: type"
 | .slice (some ⟨b0,0,some i0⟩) n _=>match d2,st.h.get b0 with
  | .slice _,some (.row _ es lo m g)=>cond (Nat.beq es size) (cond (Nat.ble lo i0&&Nat.ble (i0+n) m) (.ok (n,(fun j=>g (i0+j)),st)) (.er "append: beyond")) (.er "append: size")
  |_,_=> .er "append: row"
 | .string s=>match d2 with
  | .string=>cond (Nat.beq size 1) (.ok (s.size,(fun i _=> .sc (.int .u8 (Int.ofNat (strB s i)))),st)) (.er "append: string")
  |_=> .er "append: string"
 |x=>(I4_ P st d2 elem size x).bnd fun r=>match r with
  |(n,l)=>(toTs (toT 4) l st).bnd fun q=>match q with
   |(ts,st1)=> .ok (n,selT size n ts,st1)
def c8_(st:ASt)(size:Nat)(s:Value)(n:Nat)(f:Nat→Nat→Td):Rs AN:=match s with
 | .slice none 0 0=> .ok (.val (.slice (some ⟨st.next,0,some 0⟩) n 1) (st.new (.row .mine size 0 n f)))
 | .slice (some ⟨b0,_,none⟩) 0 0=>match st.h.get b0 with
  |some (.cells _ true _)=> .ok (.val (.slice (some ⟨st.next,0,some 0⟩) n 0) (st.new (.row .mine size 0 n f)))
  |_=> .er "append: to cells"
 | .slice (some ⟨b0,0,some i0⟩) len c=>match st.h.get b0 with
  |some (.row .mine es lo m g)=>cond (Nat.beq es size) (cond (Nat.ble lo i0&&Nat.ble (i0+len) m) (.ok (.val (.slice (some ⟨st.next,0,some 0⟩) (len+n) c)
    ((st.set b0 none).new (.row .mine size 0 (len+n) fun j k=>mrgT (Nat.blt j len) (g (i0+j) k) (f (j-len) k))))) (.er "append: beyond")) (.er "append: size")
  |_=> .er "append: to row"
 |_=> .er "append: to"
def M4_(st:ASt)(b0 o size len:Nat)(cs:List Value):ASt:=(st.set b0 none).new (.row .mine size 0 len (selT size len (I8_ o (cs.map .sc))))
def J2_(o size len c es:Nat)(ex:Bool)(cs:List Value):Bool:=(ex||Nat.beq es size)&&Nat.ble len c&&Nat.ble (o+c*size) cs.length&&cs.all s2_
def f1_(st:ASt)(size:Nat)(s:Value)(n:Nat)(f:Nat→Nat→Td):Rs AN:=match s with
 | .slice (some ⟨b0,o,none⟩) len c=>match st.h.get b0 with
  |some (.cells cs ex es)=>cond (Nat.blt 0 len) (cond (J2_ o size len c es ex cs) (c8_ (M4_ st b0 o size len cs) size (.slice (some ⟨st.next,0,some 0⟩) len c) n f) (.er "append: to cells (turn)"))
   (c8_ st size (.slice (some ⟨b0,o,none⟩) len c) n f)
  |_=>c8_ st size (.slice (some ⟨b0,o,none⟩) len c) n f
 |s=>c8_ st size s n f
def akb_:Value→Bool
 | .slice (some ⟨_,_,some _⟩) _ _=>true
 |_=>false
def abU_(s x:Value):Bool:=akb_ s||akb_ x||(match s,x with
 | .slice none 0 0,.int _ _=>true
 |_,_=>false)
def H7_(P:Program)(st:ASt)(ts:List TypeId)(args:List Value):Rs AN:=match ts,args with
 |t::t2::ts',[s,x]=>cond (abU_ s x)
  ((undL P t).bnd fun d=>(undL P t2).bnd fun d2=>match d with
   | .slice elem=>(b3_ P elem).bnd fun size=>(m1_ P elem).bnd fun by_=>(i6_ P elem).bnd fun z=>(srcF P st d2 elem size x).bnd fun nf=>match s with
    | .slice _ len _=>cond (Nat.ble by_ 1000000&&Nat.beq z.length size) (cond (Nat.ble (len+nf.1) 1000000) (f1_ nf.2.2 size s nf.1 nf.2.1) (.er "append: too long")) (.er "append: type")
    |_=> .er "append"
   |_=> .er "append")
  (Q9_ P st (t::t2::ts') [s,x])
 |_,_=> .er "append"
def aCap(st:ASt)(x:Value):Rs Value:=match x with
 | .slice none 0 0=> .ok (.int .i64 0)
 | .slice (some ⟨b0,_,none⟩) _ c=>match st.h.get b0 with
  |some (.cells _ true _)=> .ok (.int .i64 c)
  |_=> .er "cap"
 |_=> .er "cap"
def aLen(P:Program)(st:ASt)(t:TypeId)(x:Value):Rs Value:=(undL P t).bnd fun d=>match d,x with
 | .string,.string s=> .ok (.int .i64 s.size)
 | .slice _,.slice _ n _=> .ok (.int .i64 n)
 | .map _ _,.map none=> .ok (.int .i64 0)
 | .map _ _,.map (some r)=>match st.h.get r with
  |some (.map es _)=> .ok (.int .i64 es.length)
  |_=> .er "len: map"
 | .array n _,_=> .ok (.int .i64 n)
 |_,_=> .er "len"
def mmF(mx:Bool)(k:FloatKind)(a b:Nat):Nat:=match k.format.order a b with
 |none=>qnan k
 |some .lt=>cond mx b a
 |some .gt=>cond mx a b
 |some .eq=>cond ((k.decode a).neg==mx) b a
def aBuiltin(P:Program)(st:ASt)(b:Builtin)(ts:List TypeId)(args:List Value):Rs AN:=match b,ts,args with
 | .append,ts,args=>H7_ P st ts args
 | .len,t::_,[x]=>(aLen P st t x).bnd fun v=> .ok (.val v st)
 | .cap,t::_,[x]=>(undL P t).bnd fun d=>match d with
  | .slice _=>(aCap st x).bnd fun v=> .ok (.val v st)
  |_=> .er "cap"
 | .min,_,[.float k a,.float k' b]=>cond (N2_ k k') (.ok (.val (.float k (mmF false k a b)) st)) (.er "min")
 | .max,_,[.float k a,.float k' b]=>cond (N2_ k k') (.ok (.val (.float k (mmF true k a b)) st)) (.er "max")
 | .min,_,x::rest=>cond (ground 1 x&&rest.all (ground 1)) (match a9_ P (rest.foldlM Builtin.min2 x)with| .ok v=>cond (w5_ v) (.ok (.val v st)) (.er "min")|_=> .er "min") (.er "min")
 | .max,_,x::rest=>cond (ground 1 x&&rest.all (ground 1)) (match a9_ P (rest.foldlM Builtin.max2 x)with| .ok v=>cond (w5_ v) (.ok (.val v st)) (.er "max")|_=> .er "max") (.er "max")
 |_,_,_=> .er "builtin"
def bytesOf:List Value→Rs (List UInt8)
 |[]=> .ok []
 | .int .u8 n::l=>(bytesOf l).bnd fun r=> .ok (UInt8.ofNat n.toNat::r)
 |_=> .er "conv: bytes"
def x9_(t:Td):UInt8:=match t with
 | .sc (.int .u8 x)=>UInt8.ofNat x.toNat
 |_=>0
def akc_(t:Td):Bool:=match t with
 | .sc (.int .u8 _)=>true
 |_=>false
def allB(n:Nat)(f:Nat→Nat→Td):Bool:=(List.range n).all fun j=>akc_ (f j 0)
def s1_(n:Nat)(f:Nat→Nat→Td):ByteArray:=⟨((List.range n).map fun j=>x9_ (f j 0)).toArray⟩
def abc_(P:Program)(st:ASt)(src dst:TypeId)(x:Value):Rs AN:=(undL P src).bnd fun s=>(undL P dst).bnd fun d=>match s,d,x with
 |_,.int k,.int _ n=> .ok (.val (.int k (k.wrap n)) st)
 |_,.string,.string b=> .ok (.val (.string b) st)
 |_,.slice e,.string b=>(undL P e).bnd fun u=>match u with
  | .int .u8=> .ok (.val (.slice (some ⟨st.next,0,none⟩) b.size b.size) (st.new (.cells (b.data.toList.map fun c=> .int .u8 c.toNat) false 1)))
  |_=> .er "conv: string to"
 | .slice e,.string,.slice none _ _=>(undL P e).bnd fun u=>match u with
  | .int .u8=> .ok (.val (.string ⟨#[]⟩) st)
  |_=> .er "conv: to string"
 | .slice e,.string,.slice (some ⟨b0,o0,none⟩) n _=>(undL P e).bnd fun u=>match u with
  | .int .u8=>(st.readC ⟨b0,o0,none⟩ n).bnd fun l=>(bytesOf l).bnd fun bs=> .ok (.val (.string ⟨bs.toArray⟩) st)
  |_=> .er "conv: to string"
 | .slice e,.string,.slice (some ⟨b0,0,some i0⟩) n _=>(undL P e).bnd fun u=>match u,st.h.get b0 with
  | .int .u8,some (.row _ es lo m g)=>cond (Nat.beq es 1) (cond (Nat.ble lo i0&&Nat.ble (i0+n) m) (cond (allB n fun j=>g (i0+j)) (.ok (.val (.string (s1_ n fun j=>g (i0+j))) st)) (.er "conv: bytes")) (.er "conv: beyond")) (.er "conv: size")
  |_,_=> .er "conv: row to string"
 | .slice _,.slice e,.slice (some ⟨b0,o0,none⟩) n c=>(undL P e).bnd fun u=>match u with
  | .int .u8=>cond (Nat.beq src dst) (match st.h.get b0 with
   |some (.cells cs ex es)=> .ok (.val (.slice (some ⟨b0,o0,none⟩) n c) ⟨st.next,st.h,minN st.lo b0⟩)
   |_=> .er "conv: row") (.er "conv: slices")
  |_=> .er "conv: slices"
 |_,_,x=>cond (ground 1 x) (match a9_ P (convert src dst x)with| .ok v=>cond (w5_ v) (.ok (.val v st)) (.er "conv: nan")|_=> .er "conv") (.er "conv: ground")
def aiI_(P:Program)(kt:TypeId)(k l:Value):Rs Bool:=match a9_ P (Op.equal kt k l)with
 | .ok b=> .ok b
 |_=> .er "key"
def H0_(P:Program)(kt:TypeId)(k:Value):List MapEntry→Nat→Rs (Option (Nat×MapEntry))
 |[],_=> .ok none
 |e::es,i=>(aiI_ P kt k e.key).bnd fun b=>cond b (.ok (some (i,e))) (H0_ P kt k es (i+1))
def I5_(P:Program)(kt:TypeId)(e:Bool)(k:Value):Rs Unit:=cond (ground 3 k) (match a9_ P (Instr.checkKey e 10000 kt k)with
 | .ok _=> .ok ()
 |_=> .er "key: check") (.er "key: ground")
def y4_(x:Nat):Nat:=cond (nanB .f64 x) (qnan .f64) (FloatKind.f64.encode ((FloatKind.f64.decode x).integral .zero))
def s6_(fn:Func):Bool:=fn.name== "math.archTrunc" &&(Extern.findNext fn).isNone
def abd_(P:Program)(f:FuncId)(args:List Value)(st:ASt):Rs AN:=match P.funcs.toList[f]? with
 |some fn=>match fn.body with
  |some _=>cond (fn.name== "runtime.NumGoroutine") (.er "call: goroutines") (.ok (.enter f args))
  |none=>cond (s6_ fn) (match args with
    |[.float .f64 x]=> .ok (.val (.float .f64 (y4_ x)) st)
    |_=> .er "trunc")
   (cond (args.all (ground 1)) (match a9_ P (callFunc f args.toArray)with| .ok (.value v)=>cond (w5_ v) (.ok (.val v st)) (.er "ext: nan" fn.name)|_=> .er "ext" fn.name) (.er "ext" fn.name))
 |none=> .er "call: none"
def aInvoke(P:Program)(fn:Fn)(args cap:List Value)(st:ASt):Rs AN:=match fn with
 | .func f=>abd_ P f (args++cap) st
 |_=> .er "invoke"
def y9_(f:AFr)(ps:Array (Nat×Operand)):List (Nat×Value):=ps.toList.map fun(i,x)=>(i,f.ev x)
def I7_(place:Nat→Option (Nat×Nat))(cells:List Value):List (Nat×Value)→Rs (List Value)
 |[]=> .ok cells
 |(i,v)::rest=>match place i with
  |some (off,size)=>cond (Nat.beq (e7_ v).length size&&(e7_ v).all oneC&&Nat.ble (off+size) cells.length) ((Rs.of "fill" (layL off (e7_ v) cells)).bnd fun cs=>I7_ place cs rest) (.er "fill")
  |none=> .er "fill: place"
def w8_(P:Program):List Field→Rs (List (Nat×Nat))
 |[]=> .ok []
 |f::l=>(b3_ P f.type).bnd fun n=>(w8_ P l).bnd fun r=> .ok ((f.offset,n)::r)
def u8_(r:Option (Nat×MapEntry))(z:Value):Value:=match r with
 |some (_,e)=>e.val
 |none=>z
def aiE_(st:ASt)(x:Value):Rs (List MapEntry):=match x with
 | .map none=> .ok []
 | .map (some r)=>match st.h.get r with
  |some (.map es _)=> .ok es
  |_=> .er "lookup: map"
 |_=> .er "lookup"
def V8_(st:ASt)(x:Value):Option (Kk×Vk×List (Value×Value)):=match x with
 | .map (some r)=>match st.h.get r with
  |some (.omap kk vk es)=>some (kk,vk,es)
  |_=>none
 |_=>none
def acZ_(P:Program):List Field→Nat→List IntKind→Bool
 |[],_,[]=>true
 |f::l,o,k::ks=>Nat.beq f.offset o&&(f.name != "_")&&(match P.underlying f.type with|some (.int k')=>decide (k=k')|_=>false)&&acZ_ P l (o+1) ks
 |_,_,_=>false
def P2_(P:Program)(kt:TypeId):Kk→Bool
 | .i k=>match P.underlying kt with|some (.int k')=>decide (k=k')|_=>false
 | .s=>match P.underlying kt with|some .string=>true|_=>false
 | .is l=>match P.underlying kt with|some (.struct fs)=> !(P.stoodInHeld kt)&&acZ_ P fs.toList 0 l|_=>false
def aog_(vk:Vk)(z:Value):Bool:=match vk,z with
 | .b,.bool false=>true
 | .i k,.int k' 0=>decide (k=k')
 |_,_=>false
def n5_(vk:Vk)(k:Value)(es:List (Value×Value)):Value:=match vk with
 | .b=> .bool (amL_ (getK k (.bool false) es))
 | .i kd=> .int kd (intV (getK k (.int kd 0) es))
def aiF_(P:Program)(kt et:TypeId)(kk:Kk)(vk:Vk)(es:List (Value×Value))(k:Value)(ok:Bool):Rs Value:=
 (I5_ P kt true k).bnd fun _=>(I5_ P kt false k).bnd fun _=>(I0_ P et).bnd fun z=>
  cond (P2_ P kt kk&&c6_ kk k&&aog_ vk z) (.ok (cond ok (.tuple #[n5_ vk k es,.bool (hasK k es)]) (n5_ vk k es))) (.er "lookup: kind")
def putO(P:Program)(kt:TypeId)(kk:Kk)(vk:Vk)(es:List (Value×Value))(k v:Value):Rs AObj:=
 (I5_ P kt false k).bnd fun _=>cond (P2_ P kt kk&&c6_ kk k&&i8_ vk v) (.ok (.omap kk vk (putK k v es))) (.er "update: kind")
def aOp(P:Program)(f:AFr)(st:ASt)(o:Oper):Rs AN:=
 let ev:=f.ev
 match o.op with
 | .move x| .assign x=> .ok (.val (ev x) st)
 | .pick c a b=>match ev c with
  | .bool b'=> .ok (.val (cond b' (ev a) (ev b)) st)
  |_=> .er "pick"
 | .alloc t=>(i6_ P t).bnd fun z=> .ok (.val (.pointer (some ⟨st.next,0,none⟩)) (st.new (.cells z true 0)))
 | .box _ x=>cond ((e7_ (ev x)).all oneC) (.ok (.val (.pointer (some ⟨st.next,0,none⟩)) (st.new (.cells (e7_ (ev x)) true 0)))) (.er "box")
 | .build t ps=>(i6_ P t).bnd fun z=>(undL P t).bnd fun d=>match d with
  | .struct fs=>(w8_ P fs.toList).bnd fun pl=>(I7_ (fun i=>pl[i]?) z (y9_ f ps)).bnd fun cs=> .ok (.val (.agg cs.toArray) st)
  | .array _ e=>(b3_ P e).bnd fun n=>(I7_ (fun i=>some (i*n,n)) z (y9_ f ps)).bnd fun cs=> .ok (.val (.agg cs.toArray) st)
  |_=> .er "build"
 | .buildSlice t len ps=>(undL P t).bnd fun d=>match d with
  | .slice e=>(b3_ P e).bnd fun n=>(i6_ P e).bnd fun z=>cond (Nat.beq z.length n&&Nat.ble (len*n) 16777216) ((I7_ (fun i=>some (i*n,n)) (repL z len) (y9_ f ps)).bnd fun cs=>
   .ok (.val (.slice (some ⟨st.next,0,none⟩) len len) (st.new (.cells cs true n)))) (.er "buildSlice: size")
  |_=> .er "buildSlice"
 | .load t a=>match ev a with
  | .pointer (some a)=>(b3_ P t).bnd fun n=>(st.read a n).bnd fun l=>(aaf_ P t l.1).bnd fun v=> .ok (.val v l.2)
  |_=> .er "load"
 | .store t a x=>match ev a with
  | .pointer (some a)=>(b3_ P t).bnd fun n=>cond (Nat.beq (e7_ (ev x)).length n) ((st.write a (e7_ (ev x))).bnd fun st'=> .ok (.val undef st')) (.er "store: size")
  |_=> .er "store"
 | .nilCheck x=>match ev x with
  | .pointer (some a)=> .ok (.val (.pointer (some a)) st)
  | .iface t v=> .ok (.val (.iface t v) st)
  | .func (.func g) a b=> .ok (.val (.func (.func g) a b) st)
  | .slice a n c=> .ok (.val (.slice a n c) st)
  | .map r=> .ok (.val (.map r) st)
  |_=> .er "nilCheck"
 | .binOp op t x y _=>match n6_ op (ev x) (ev y)with
  |some v=> .ok (.val v st)
  |none=>(aBin P op t x y (ev x) (ev y)).bnd fun r=>match r with
   | .ok v=> .ok (.val v st)
   | .panic v=> .ok (.panic v)
   | .no=> .er "bin"
 | .unOp op _ x=>match ajr_ op (ev x)with
  |some v=> .ok (.val v st)
  |none=>cond (ground 1 (ev x)) (match a9_ P (Op.unary op (ev x))with| .ok v=>cond (w5_ v) (.ok (.val v st)) (.er "unary: nan")|_=> .er "unary") (.er "unary: ground")
 | .convert s d x=>abc_ P st s d (ev x)
 | .makeInterface t x=>(undL P t).bnd fun d=>match d with
  | .interface _=> .er "makeInterface"
  |_=> .ok (.val (.iface t (ev x)) st)
 | .makeFunc fn a b=> .ok (.val (.func fn (a.toList.map ev).toArray (b.toList.map ev).toArray) st)
 | .makeMap t r=>match r with
  |none=> .ok (.val (.map (some st.next)) (st.new (.map [] 0)))
  |some x=>match ev x with
   | .int _ _=>(undL P t).bnd fun d=>match d with
    | .map _ _=> .ok (.val (.map (some st.next)) (st.new (.map [] 0)))
    |_=> .er "makeMap"
   |_=> .er "makeMap"
 | .makeSlice t l c=>match ev l,ev c with
  | .int _ (.ofNat l'),.int _ (.ofNat c')=>(undL P t).bnd fun d=>match d with
   | .slice e=>(i6_ P e).bnd fun z=>(b3_ P e).bnd fun n=>(m1_ P e).bnd fun b=>cond (ahT_ c)
    (cond (Nat.beq l' c'&&Nat.ble c' 1000000&&Nat.ble b 1000000&&Nat.beq z.length n&&z.all zOk) (.ok (.val (.slice (some ⟨st.next,0,some 0⟩) l' 0) (st.new (.row .mine n 0 l' fun _ j=>nthT (z.map zT) j)))) (.er "makeRow"))
    (cond (Nat.ble l' c'&&Nat.ble c' 1000000&&Nat.ble b 1000000&&Nat.beq z.length n) (.ok (.val (.slice (some ⟨st.next,0,none⟩) l' c') (st.new (.cells (repL z c') true n)))) (.er "makeSlice"))
   |_=> .er "makeSlice"
  |_,_=> .er "makeSlice"
 | .slice t x lo hi mx=>match mx with
  |none=>(aSlice P st t (ev x) (lo.map ev) (hi.map ev)).bnd fun v=> .ok (.val v st)
  |some m=>match ev m,hi.map ev,lo with
   | .int _ (.ofNat 0),some (.int _ (.ofNat 0)),none=>(undL P t).bnd fun d=>match d,ev x with
    | .slice e,.slice (some ⟨b0,0,some i0⟩) _ _=>(b3_ P e).bnd fun _=> .ok (.val (.slice (some ⟨b0,1,some i0⟩) 0 0) st)
    | .slice e,.slice none 0 0=>(b3_ P e).bnd fun _=> .ok (.val (.slice none 0 0) st)
    | .slice e,.slice (some ⟨b0,o0,none⟩) _ _=>(b3_ P e).bnd fun _=> .ok (.val (.slice (some ⟨b0,1,some 0⟩) 0 0) st)
    |_,_=> .er "slice: of three"
   |_,_,_=> .er "slice: of three"
 | .fieldAddr s x i=>match ev x with
  | .pointer (some ⟨b0,o0,none⟩)=>(p4_ P s i).bnd fun fd=>(b3_ P fd.type).bnd fun n=>cond (Nat.beq n 0) (.er "fieldAddr: 0") (.ok (.val (.pointer (some ((⟨b0,o0,none⟩:Addr).add fd.offset))) st))
  | .pointer (some ⟨b0,o0,some i0⟩)=>(p4_ P s i).bnd fun fd=>(b3_ P fd.type).bnd fun n=>cond (Nat.beq n 0) (.er "fieldAddr: 0") (.ok (.val (.pointer (some ⟨b0,o0+fd.offset,some i0⟩)) st))
  |_=> .er "fieldAddr"
 | .field t x i=>match ev x with
  | .agg cs=>(p4_ P t i).bnd fun fd=>(acR_ P fd.type cs.toList fd.offset).bnd fun v=> .ok (.val v st)
  |_=> .er "field"
 | .indexAddr t x i=>match ev i with
  | .int _ (.ofNat i)=>(undL P t).bnd fun d=>match d,ev x with
   | .slice e,.slice (some ⟨b0,o0,none⟩) n _=>(b3_ P e).bnd fun s=>cond (Nat.blt i n) (.ok (.val (.pointer (some ((⟨b0,o0,none⟩:Addr).add (i*s)))) st)) (.er "index")
   | .slice e,.slice (some ⟨b0,0,some i0⟩) n _=>(b3_ P e).bnd fun s=>match st.h.get b0 with
    |some (.row _ es _ _ _)=>cond (Nat.beq es s) (cond (Nat.blt i n) (.ok (.val (.pointer (some ⟨b0,0,some (i0+i)⟩)) st)) (.er "index")) (.er "index: size")
    |_=> .er "index: row"
   | .array n e,.pointer (some ⟨b0,o0,none⟩)=>(b3_ P e).bnd fun s=>cond (Nat.blt i n) (.ok (.val (.pointer (some ((⟨b0,o0,none⟩:Addr).add (i*s)))) st)) (.er "index")
   | .array n e,.pointer (some ⟨b0,o0,some i0⟩)=>(b3_ P e).bnd fun s=>cond (Nat.blt i n) (.ok (.val (.pointer (some ⟨b0,o0+i*s,some i0⟩)) st)) (.er "index")
   |_,_=> .er "indexAddr"
  |_=> .er "indexAddr: int"
 | .index t x i=>match ev i,ev x with
  | .int _ (.ofNat i),.string s=>(undL P t).bnd fun d=>match d with
   | .string=>match s.data.toList[i]? with
    |some b=> .ok (.val (.int .u8 b.toNat) st)
    |none=> .er "index: string"
   |_=> .er "index: string"
  | .int _ (.ofNat i),.agg cs=>(undL P t).bnd fun d=>match d with
   | .array n e=>(b3_ P e).bnd fun s=>cond (Nat.blt i n) ((acR_ P e cs.toList (i*s)).bnd fun v=> .ok (.val v st)) (.er "index")
   |_=> .er "index"
  |_,_=> .er "index"
 | .lookup t x i ok=>(undL P t).bnd fun d=>match d with
  | .map kt et=>match V8_ st (ev x)with
   |some (kk,vk,es)=>(aiF_ P kt et kk vk es (ev i) ok).bnd fun v=> .ok (.val v st)
   |none=>(undL P kt).bnd fun _=>(aiE_ st (ev x)).bnd fun es=>(I5_ P kt es.isEmpty (ev i)).bnd fun _=>(H0_ P kt (ev i) es 0).bnd fun r=>(I0_ P et).bnd fun z=>
    .ok (.val (cond ok (.tuple #[u8_ r z,.bool r.isSome]) (u8_ r z)) st)
  |_=> .er "lookup: type"
 | .mapUpdate t m k x| .insert t m k x=>(undL P t).bnd fun d=>match d with
  | .map kt _=>(undL P kt).bnd fun _=>match ev m with
   | .map (some r)=>match st.h.get r with
    |some (.map es clock)=>(I5_ P kt false (ev k)).bnd fun _=>(H0_ P kt (ev k) es 0).bnd fun q=>match q with
     |some (i,e)=>cond (Instr.sameBits 10000 e.key (ev k)) (.ok (.val undef (st.set r (some (.map (es.set i {e with key:=ev k,val:=ev x}) clock))))) (.er "update: bits")
     |none=> .ok (.val undef (st.set r (some (.map (es++[{key:=ev k,val:=ev x,born:=clock}]) (clock+1)))))
    |some (.omap kk vk es)=>(putO P kt kk vk es (ev k) (ev x)).bnd fun o=> .ok (.val undef (st.set r (some o)))
    |_=> .er "update: map"
   |_=> .er "update"
  |_=> .er "update: type"
 | .typeAssert x xt t ok=>(undL P t).bnd fun d=>match d,ev x with
  | .interface _,_=> .er "typeAssert: interface"
  |_,.nilIface=>cond ok ((I0_ P t).bnd fun z=> .ok (.val (.tuple #[z,.bool false]) st)) (.er "typeAssert: nil")
  |_,.iface t' v=>cond (Nat.beq t' t) (.ok (.val (cond ok (.tuple #[v,.bool true]) v) st))
   (cond ok ((I0_ P t).bnd fun z=> .ok (.val (.tuple #[z,.bool false]) st)) (.er "typeAssert: fails"))
  |_,_=> .er "typeAssert"
 | .extract t i=>match ev t with
  | .tuple vs=>(Rs.of "extract" vs.toList[i]?).bnd fun v=> .ok (.val v st)
  |_=> .er "extract"
 | .call c=>match c.callee with
  | .builtin b=>aBuiltin P st b c.argTypes.toList (c.args.toList.map ev)
  | .value g=>match ev g with
   | .func fn a b=>aInvoke P fn (a.toList++c.args.toList.map ev) b.toList st
   |_=> .er "call: value"
  | .invoke _ _=> .er "invoke"
 | .defer c=>match c.callee with
  | .value g=>match ev g with
   | .func fn a b=> .ok (.defer ⟨fn,b.toList,a.toList++c.args.toList.map ev⟩)
   |_=> .er "defer"
  |_=> .er "defer"
 | .panic x=>match ev x with
  | .iface t v=> .ok (.panic (.iface t v))
  |_=> .er "panic"
 |_=> .er "op"
inductive AX where
 |normal
 |exit (id:Nat)
 |ret
 |panic (v:Value)
inductive AE where
 |returned (v:Value)
 |panicked (v:Value)
abbrev Self:=FuncId→List Value→ASt→Rs (AE×ASt)
def g2_(ops:List Oper)(f:AFr)(o:Oper):Option Bool:=match o.guard with
 |none=>some true
 |some (j,want)=>match ops[j]? with
  |some oj=>match oj.dst with
   |some d=>match f.tmps.get d with
    |some (.bool b)=>some (b==want)
    |some (.tuple _)=>some false
    |_=>none
   |none=>some false
  |none=>some false
def evOp(P:Program)(self:Self)(f:AFr)(st:ASt)(o:Oper):Rs (AX×AFr×ASt):=
 match aOp P f st o with
 | .ok (.val v st')=> .ok (.normal,f.put o.dst v,st')
 | .ok (.enter g args)=>match self g args st with
  | .ok (.returned v,st'')=> .ok (.normal,f.put o.dst v,st'')
  | .ok (.panicked v,st'')=> .ok (.panic v,f,st'')
  | .er s p=> .er s p
 | .ok (.defer d)=> .ok (.normal,({f with defers:=d::f.defers}:AFr).put o.dst undef,st)
 | .ok (.panic v)=> .ok (.panic v,f,st)
 | .er s _=> .er s o.pos
def evOps(P:Program)(self:Self)(all:List Oper):List Oper→AFr→ASt→Rs (AX×AFr×ASt)
 |[],f,st=> .ok (.normal,f,st)
 |o::rest,f,st=>match g2_ all f o with
  |some true=>(match evOp P self f st o with
   | .ok (.normal,f',st')=>evOps P self all rest f' st'
   |r=>r)
  |some false=>evOps P self all rest (f.put o.dst undef) st
  |none=> .er "guard" o.pos
def v6_(e:Edge):Bool:=match e.ground with
 | .textOnly _| .gcOnly _=>false
 |_=>true
def W3_:List Edge→List Nat→Nat
 |[],_=>0
 |e::es,acc=>cond (v6_ e) (W3_ es acc|||2^e.on|||acc.getD e.on 0) (W3_ es acc)
def ancL:List Oper→List Nat→List Nat
 |[],acc=>acc
 |o::l,acc=>ancL l (acc++[W3_ o.after.toList acc])
def e0_(ops:List Oper)(o:Oper):List Nat:=
 (o.op.operands.toList.filterMap fun| .tmp t=>some t|_=>none)++
 (match o.guard with
  |some (g,_)=>match ops[g]? with
   |some og=>match og.dst with
    |some d=>[d]
    |none=>[]
   |none=>[]
  |none=>[])
def f4_(m j:Nat):Bool:=Nat.beq ((m>>>j)%2) 1
def hasN(l:List Nat)(d:Option Nat):Bool:=match d with
 |some d=>l.any (Nat.beq d)
 |none=>false
def acJ_(a b:Option Nat):Bool:=match a,b with
 |some a,some b=>Nat.beq a b
 |_,_=>false
def M9_(ops:List Oper):List (Oper×Nat)→List (Nat×List Nat×Option Nat)→Nat→Bool
 |[],_,_=>true
 |(o,m)::l,seen,j=>
  seen.all (fun r=>f4_ m r.1|| !(hasN (e0_ ops o) r.2.2||hasN r.2.1 o.dst||acJ_ o.dst r.2.2))&&
  M9_ ops l ((j,e0_ ops o,o.dst)::seen) (j+1)
def M0_(ops:List Oper):Nat→Bool
 |0=>true
 |n+1=>(match ops[n]? with
  |some o=>o.after.toList.all (fun e=> !v6_ e||Nat.blt e.on n)&&(match o.op with| .select .. | .defer _=>false|_=>true)
  |none=>true)&&M0_ ops n
def g3_(ops:List Oper):Bool:=M9_ ops (ops.zip (ancL ops [])) [] 0&&M0_ ops ops.length
def ajN_:Op→Bool
 | .move _| .assign _| .pick .. | .binOp .. | .unOp .. | .field .. | .fieldAddr .. | .index .. | .indexAddr .. | .extract .. | .makeInterface .. | .makeFunc .. | .typeAssert .. | .build .. | .nilCheck _=>true
 |_=>false
structure Rec where
 j:Nat
 s:Nat
 e:Nat
 wr:Bool
 lo:Nat
 fp:Option (List Nat)
def acj_:Nat→Nat→Tr AObj→Tr AObj
 |0,_,h=>h
 |n+1,s,h=>acj_ n (s+1) (h.set s none)
def agz_:Nat→Nat→Tr AObj→Tr AObj→Tr AObj
 |0,_,_,h=>h
 |n+1,s,g,h=>agz_ n (s+1) g (h.set s (g.get s))
def agB_:List Nat→Tr AObj→Tr AObj→Tr AObj
 |[],_,h=>h
 |a::l,g,h=>agB_ l g (h.set a (g.get a))
def redu(m:Nat):List Rec→Tr AObj→Tr AObj
 |[],h=>h
 |r::l,h=>redu m l (cond (f4_ m r.j) h (acj_ (r.e-r.s) r.s h))
def big:Nat:=1000000000000
def idsV:Nat→Value→List Nat
 |_,.pointer (some a)=>[a.block]
 |_,.slice (some a) _ _=>[a.block]
 |_,.map (some r)=>[r]
 |n+1,.iface _ v=>idsV n v
 |n+1,.agg vs|n+1,.tuple vs=>vs.toList.flatMap (idsV n)
 |n+1,.func _ a b=>a.toList.flatMap (idsV n)++b.toList.flatMap (idsV n)
 |_,_=>[]
def idsO:AObj→List Nat
 | .cells cs _ _=>cs.flatMap (idsV 4)
 | .old cs _ _=>cs.flatMap (idsV 4)
 | .row .. =>[]
 | .map es _=>es.flatMap fun e=>idsV 4 e.val
 | .omap .. =>[]
 | .iter .. =>[]
def N8_(h:Tr AObj):Nat→List Nat→Tr Unit→List Nat→List Nat
 |0,_,_,acc=>acc
 |_+1,[],_,acc=>acc
 |n+1,x::todo,seen,acc=>match seen.get x with
  |some _=>N8_ h n todo seen acc
  |none=>match h.get x with
   |some o=>N8_ h n (idsO o++todo) (seen.set x (some ())) (x::acc)
   |none=>N8_ h n todo seen acc
def Z1_(v:Value):Option (List Nat):=match v with
 | .pointer (some a)=>some [a.block]
 | .slice (some a) _ _=>some [a.block]
 | .map (some r)=>some [r]
 | .pointer none| .slice none _ _| .map none| .string _| .int .. | .bool _| .float .. =>some []
 |_=>none
def ahc_:List Value→Option (List Nat)
 |[]=>some []
 |v::l=>match Z1_ v,ahc_ l with
  |some a,some b=>some (a++b)
  |_,_=>none
def fpOf(f:AFr)(h:Tr AObj):Op→Option (List Nat)
 | .load _ a=>Z1_ (f.ev a)
 | .store _ a x=>match f.ev a with
  | .pointer (some ⟨b,_,some _⟩)=>some (N8_ h 1000 (b::idsV 4 (f.ev x)) .leaf [])
  |v=>Z1_ v
 | .slice _ x _ _ _=>Z1_ (f.ev x)
 | .alloc _| .box .. | .buildSlice .. | .makeSlice .. | .makeMap .. =>some []
 | .lookup _ x _ _| .convert _ _ x=>Z1_ (f.ev x)
 | .call {callee:= .builtin .append,args,.. }=>some (N8_ h 1000 ((args.toList.map f.ev).flatMap (idsV 4)) .leaf [])
 | .call {callee:= .builtin _,args,.. }=>ahc_ (args.toList.map f.ev)
 |_=>none
def akk_(p q:Nat)(a b:Option (List Nat)):Bool:=match a,b with
 |some a,some b=>a.all fun x=>b.all fun y=> !(Nat.beq x y)||(Nat.blt x p&&Nat.blt x q)
 |_,_=>false
def ajO_(f:AFr):Op→List Nat
 | .indexAddr _ x _=>match f.ev x with
  | .slice (some ⟨b,_,some _⟩) _ _=>[b]
  |_=>[]
 |_=>[]
def z5_(m:Nat)(recs:List Rec)(wr:Bool)(lo:Nat)(fp:Option (List Nat)):Bool:=
 recs.all fun r=>f4_ m r.j|| !(r.wr||wr)||akk_ r.lo lo r.fp fp
def d1_(m:Nat)(recs:List Rec)(h:Tr AObj)(fp:Option (List Nat)):Tr AObj:=match fp with
 |some l=>agB_ l (redu m recs h) .leaf
 |none=>redu m recs h
def adk_:List Nat→Tr AObj→Tr AObj→Tr AObj→Tr AObj
 |[],_,_,h=>h
 |a::l,g,h',h=>match g.get a with
  |some _=>adk_ l g h' (h.set a (h'.get a))
  |none=>adk_ l g h' h
def j1_(m:Nat)(recs:List Rec)(h g h':Tr AObj)(s e:Nat)(fp:Option (List Nat)):Tr AObj:=match fp with
 |some l=>agz_ (e-s) s h' (adk_ l g h' h)
 |none=>cond (recs.all fun r=>f4_ m r.j) h' (agz_ (e-s) s h' h)
def N5_(f:AFr):List Nat→Tr Value
 |[]=> .leaf
 |t::l=>match f.tmps.get t with
  |some v=>(N5_ f l).set t (some v)
  |none=>N5_ f l
def P9_(P:Program)(self:Self)(f:AFr)(st:ASt)(o:Oper):Rs (Value×ASt):=
 match aOp P f st o with
 | .ok (.val v st')=> .ok (v,st')
 | .ok (.enter g args)=>match self g args st with
  | .ok (.returned v,st'')=> .ok (v,st'')
  | .ok _=> .er "draw: panics" o.pos
  | .er s p=> .er s p
 | .ok _=> .er "draw: panics" o.pos
 | .er s _=> .er s o.pos
def noRec(fp:Option (List Nat))(s e:Nat):Bool:=match fp with
 |some []=>Nat.beq s e
 |_=>false
def r8_(P:Program)(self:Self)(all:List Oper):List (Oper×Nat)→Nat→List Rec→AFr→ASt→Rs (AX×AFr×ASt)
 |[],_,_,f,st=> .ok (.normal,f,st)
 |(o,m)::rest,j,recs,f,st=>
  let next (fp:Option (List Nat)) (v:Value) (st':ASt):Rs (AX×AFr×ASt):=
   cond (z5_ m recs (!(Nat.ble st.next st'.lo)) st'.lo fp)
    (r8_ P self all rest (j+1) (cond (noRec fp st.next st'.next) recs (⟨j,st.next,st'.next,!(Nat.ble st.next st'.lo),st'.lo,fp⟩::recs)) (f.put o.dst v)
     ⟨st'.next,j1_ m recs st.h (d1_ m recs st.h fp) st'.h st.next st'.next fp,minN st.lo st'.lo⟩)
    (.er "draw: not apart" o.pos)
  let fr:AFr:=⟨f.n,N5_ f (e0_ all o),f.defers⟩
  match g2_ all f o with
  |some true=>match cond (ajN_ o.op) (some (ajO_ f o.op)) (fpOf f st.h o.op)with
    |some l=>(match P9_ P self fr ⟨st.next,d1_ m recs st.h (some l),big⟩ o with
     | .ok (v,st')=>next (some l) v st'
     | .er s p=> .er s p)
    |none=>(match P9_ P self fr ⟨st.next,d1_ m recs st.h none,big⟩ o with
     | .ok (v,st')=>cond (Nat.ble st.next st'.lo) (next none v st')
      (let l:=N8_ st.h 100000 ((o.op.operands.toList.map f.ev).flatMap (idsV 4)) .leaf []
       match P9_ P self fr ⟨st.next,d1_ m recs st.h (some l),big⟩ o with
        | .ok (v,st')=>next (some l) v st'
        | .er s p=> .er s p)
     | .er s p=> .er s p)
  |some false=>r8_ P self all rest (j+1) recs (f.put o.dst undef) st
  |none=> .er "guard" o.pos
def Q0_(P:Program)(self:Self)(ops:List Oper)(draw:Bool)(f:AFr)(st:ASt):Rs (AX×AFr×ASt):=
 cond draw (cond (g3_ ops) (r8_ P self ops (ops.zip (ancL ops [])) 0 [] f st) (.er "draw: slots")) (evOps P self ops ops f st)
def iter(g:AFr→ASt→Rs (AX×AFr×ASt)):Nat→AFr→ASt→Rs (AX×AFr×ASt)
 |0,_,_=> .er "loop: too long"
 |n+1,f,st=>match g f st with
  | .ok (.normal,f',st')=>iter g n f' st'
  |r=>r
def d3_(P:Program)(self:Self)(fuel:Nat):Code→AFr→ASt→Rs (AX×AFr×ASt)
 | .skip,f,st=> .ok (.normal,f,st)
 | .region _ ops draw,f,st=>Q0_ P self ops.toList draw f st
 | .seq a b,f,st=>match d3_ P self fuel a f st with
  | .ok (.normal,f',st')=>d3_ P self fuel b f' st'
  |r=>r
 | .cond c a b,f,st=>match f.ev c with
  | .bool true=>d3_ P self fuel a f st
  | .bool false=>d3_ P self fuel b f st
  |_=> .er "cond"
 | .block id c,f,st=>match d3_ P self fuel c f st with
  | .ok (.exit i,f',st')=>cond (Nat.beq i id) (.ok (.normal,f',st')) (.ok (.exit i,f',st'))
  |r=>r
 | .loop c,f,st=>iter (d3_ P self fuel c) fuel f st
 | .exit id,f,st=> .ok (.exit id,f,st)
 | .ret,f,st=> .ok (.ret,f,st)
 |_,_,_=> .er "code"
def s9_:List Value→Nat→Tr Value→Tr Value
 |[],_,t=>t
 |v::l,i,t=>s9_ l (i+1) (t.set i (some v))
def resL(P:Program)(st:ASt)(f:AFr):List ResultVar→Rs (List Value)
 |[]=> .ok []
 | .tmp t::l=>(resL P st f l).bnd fun vs=> .ok (f.tmp t::vs)
 | .cell a t::l=>match f.tmp a with
  | .pointer (some a)=>(b3_ P t).bnd fun n=>(st.readC a n).bnd fun cs=>(aaf_ P t cs).bnd fun v=>(resL P st f l).bnd fun vs=> .ok (v::vs)
  |_=> .er "result"
def u0_(P:Program)(fn:Func)(st:ASt)(f:AFr):Rs Value:=(resL P st f fn.results.toList).bnd fun vs=>match vs with
 |[v]=> .ok v
 |vs=> .ok (.tuple vs.toArray)
def x3_(P:Program)(selfD:FuncId→List Value→Option Value→ASt→Rs (Option Value×ASt))(fn:Func)(f:AFr):List ADef→Option Value→ASt→Rs (AE×ASt)
 |[],none,st=>(u0_ P fn st f).bnd fun v=> .ok (.returned v,st)
 |[],some v,st=> .ok (.panicked v,st)
 |d::ds,p,st=>match aInvoke P d.fn d.args d.cap st with
  | .ok (.enter g args)=>match selfD g args p st with
   | .ok (p',st'')=>x3_ P selfD fn f ds p' st''
   | .er s p=> .er s p
  |_=> .er "deferred"
def finD(P:Program)(fn:Func)(p:Option Value)(r:Rs (AX×AFr×ASt)):Rs (Option Value×ASt):=match r with
 | .ok (.normal,f,st')| .ok (.ret,f,st')=>match f.defers with
  |[]=>(u0_ P fn st' f).bnd fun _=> .ok (p,st')
  |_=> .er "deferred: defers"
 | .ok _=> .er "deferred: panics"
 | .er s p=> .er s p
def p1_(o:Oper):Bool:=match o.op,o.guard with
 | .call {callee:= .builtin .recover,.. },none=>true
 |_,_=>false
def E5_(p:Option Value):Value:=match p with
 |some v=>v
 |none=> .nilIface
def evD(P:Program)(self:Self)(fuel:Nat)(g:FuncId)(args:List Value)(p:Option Value)(st:ASt):Rs (Option Value×ASt):=
 match P.funcs.toList[g]? with
 |some fn=>match fn.body with
  |some body=>match body with
   | .seq (.region id ops false) c2=>match ops.toList with
    |o::l=>cond (p1_ o)
     (finD P fn none (match evOps P self (o::l) l ((⟨maxN args.length fn.ntmps,s9_ args 0 .leaf,[]⟩:AFr).put o.dst (E5_ p)) st with
      | .ok (.normal,f',st')=>d3_ P self fuel c2 f' st'
      |r=>r))
     (finD P fn p (d3_ P self fuel body ⟨maxN args.length fn.ntmps,s9_ args 0 .leaf,[]⟩ st))
    |[]=> .er "deferred: empty"
   |body=>finD P fn p (d3_ P self fuel body ⟨maxN args.length fn.ntmps,s9_ args 0 .leaf,[]⟩ st)
  |none=> .er "deferred: no body"
 |none=> .er "deferred: none"
def X4_(P:Program)(fuel:Nat)(self:Self):Self:=fun g args st=>match P.funcs.toList[g]? with
  |some fn=>match fn.body with
   |some body=>match d3_ P self fuel body ⟨maxN args.length fn.ntmps,s9_ args 0 .leaf,[]⟩ st with
    | .ok (.normal,f,st')| .ok (.ret,f,st')=>match f.defers with
     |[]=>(u0_ P fn st' f).bnd fun v=> .ok (.returned v,st')
     |ds=>x3_ P (evD P self fuel) fn f ds none st'
    | .ok (.panic v,f,st')=>match f.defers with
     |[]=> .ok (.panicked v,st')
     |ds=>x3_ P (evD P self fuel) fn f ds (some v) st'
    | .ok _=> .er "exit"
    | .er s p=> .er s p
   |none=> .er "no body"
  |none=> .er "no function"
def amE_(P:Program)(fuel:Nat):Nat→Self
 |0=>fun _ _ _=> .er "too deep"
 |n+1=>X4_ P fuel (amE_ P fuel n)
structure TCon where
 run:List Value→ASt→Rs (AE×ASt)
 sym:List Value→ASt→(AE→ASt→Prop)→Prop
 ok: ∀args st K,sym args st K→ ∃r st',run args st= .ok (r,st')∧K r st'
abbrev Told:=FuncId→Option TCon
def L3_(P:Program)(C:Told)(fuel:Nat):Nat→Self
 |0=>fun _ _ _=> .er "too deep"
 |n+1=>fun g args st=>match C g with
  |some c=>c.run args st
  |none=>X4_ P fuel (L3_ P C fuel n) g args st
def st0:ASt:=⟨0,.leaf,big⟩
def aka_(P:Program)(g:FuncId):Bool:=match amE_ P 100000 100 g [] st0 with
 | .ok (.returned (.bool true),_)=>true
 |_=>false
end Go.Proofs.YtachglcffimmeaaGreat.Ev
