/-
  slices.Equal tells whether two rows of bytes are the same.
-/
import Derived.Test.YtachglcffimmeaaGreatR18
set_option linter.unusedVariables false
set_option linter.unusedSimpArgs false
set_option maxRecDepth 1000000
section
namespace Go.Proofs.YtachglcffimmeaaGreat.Ev
open Go Go.Proofs Go.RowKit
theorem t8_(l m:List U8)(h:l.length=m.length):f9_ l m=true↔ ∀i,i<l.length→(l.getD i Enc.dflt).v=(m.getD i Enc.dflt).v:=by
 unfold f9_
 rw[decide_eq_true h,Bool.true_and,List.all_eq_true]
 exact⟨fun h j hj=>of_decide_eq_true (h j (List.mem_range.2 hj)),fun h j hj=>decide_eq_true (h j (List.mem_range.1 hj))⟩
theorem abk_{a b:U8}(h:a.v=b.v):a=b:=by cases a;cases b;simp at h;subst h;rfl
theorem B0_(l m:List U8):f9_ l m=true↔l=m:=by
 constructor
 ·intro h
  have hl:l.length=m.length:=by
   unfold f9_ at h
   rw[Bool.and_eq_true]at h
   exact of_decide_eq_true h.1
  have h2:=(t8_ l m hl).1 h
  apply List.ext_getElem hl
  intro i h1 h3
  have:=h2 i h1
  simp[List.getD,h1,h3]at this
  exact abk_ this
 ·intro h
  subst h
  exact(t8_ l l rfl).2 fun _ _=>rfl
theorem J8_(l:List U8):f9_ l l=true:=(B0_ l l).2 rfl
theorem aiP_{l m:List U8}{c d:Nat}{β:Bs}(hβ:β.X.length=2)(hn:l.length=m.length)(hn6:l.length≤1000000)(K:Kt)(h1:f9_ l m=true→K (.exit 0) (FE l m c d l.length) (SE l m))(h2:f9_ l m=false→K .ret (FEr false) (SE l m))(k:Nat)(hk:k≤l.length∧ ∀j,j<k→(l.getD j Enc.dflt).v=(m.getD j Enc.dflt).v):
  J Tryz.prog β (a5_ Tryz.prog 66 0) (FE l m c d k) (SE l m) (Nn β (fun k:Nat=>k≤l.length∧ ∀j,j<k→(l.getD j Enc.dflt).v=(m.getD j Enc.dflt).v) (fun k=>l.length-k) (fun k=>FE l m c d k) (fun _=>SE l m) k K):=by
 refine rJ_ (E:=2) (lvs:=fun _=>slE) (un:=fun _=>0) (fuel:=100) (n:=20) (ex:=fun _ _=>False) follows toldU_ok hβ (lv:=lvE) ?_
 rw[akL_]
 try dsimp only
 by_cases hkn:k<l.length
 ·have c1:decide ((k:Int)<Int.ofNat l.length)=true:=by simpa using hkn
  have c2:decide ((0:Int)≤(k:Int))=true:=by simp
  have e0:Int.toNat (k:Int)=k:=Int.toNat_natCast k
  have c3:Nat.blt k l.length=true:=by simpa using hkn
  have c4:Nat.blt k m.length=true:=by rw[←hn];exact c3
  have c5:Nat.ble 0 k=true:=by simp
  have hw:IntKind.wrap .i64 ((k:Int)+1)=((k+1:Nat):Int):=w64 (by omega) (by omega)
  simp only[c1,c2,e0,Nat.zero_add,c3,c4,c5,Bool.true_and,br_t,z3_,hw]
  refine a0_ (fun q=>Nn.ret (Seen.refl _ _ _) (h2 ?_)) (fun q=> ?_)
  ·cases hq:f9_ l m with
   |false=>rfl
   |true=>
    have:=(t8_ l m hn).1 hq k hkn
    rw[this]at q
    simp at q
  ·refine Nn.next (I:=fun k:Nat=>k≤l.length∧ ∀j,j<k→(l.getD j Enc.dflt).v=(m.getD j Enc.dflt).v) (m:=fun k=>l.length-k) (F:=fun k:Nat=>FE l m c d k) (S:=fun _=>SE l m) (p:=k) (k+1) ⟨hkn,fun j hj=> ?_⟩ (by omega) (Seen.refl _ _ _)
   by_cases hjk:j<k
   ·exact hk.2 j hjk
   ·have:j=k:=by omega
    subst this
    simpa using q
 ·have c1:decide ((k:Int)<Int.ofNat l.length)=false:=by simpa using hkn
  have hkn':k=l.length:=by omega
  simp only[c1,br_f]
  subst hkn'
  exact Nn.exit (Seen.refl _ _ _) (h1 ((t8_ l m hn).2 hk.2))
theorem adj_:c5_ Tryz.prog 66 (ok2 U8 U8 fun _ _ _ _=>true) (ans2 U8 U8 fun l _ m _=>bAns (f9_ l m)):=by
 refine anS_ follows fun l c m d hl hc hm hd _=>⟨toldU,100,20,fun _=>0,fun _=>slE,exE l m c d,toldU_ok,fun β hβ=> ?_⟩
 show lawE _ _ _ _ _ _ (cnOf 2 fun _=>slE) _ _ _ _ _
 have hK: ∀b,f9_ l m=b→ansE (bAns (f9_ l m)) (.returned (.bool b)) st0:=fun b hb=>by subst hb;exact agK_ _ _
 rw[acp_,apz_ l m c d β fun r=>ansE (bAns (f9_ l m)) r st0]
 refine a0_ (fun h=> ?_) (fun h=>⟨?_,fun h1=>hK true h1,fun h1=>hK false h1⟩)
 ·have: ¬l.length=m.length:=by simp at h;omega
  exact hK false (by simp only[f9_];rw[decide_eq_false this,Bool.false_and])
 ·have hn:l.length=m.length:=by simp at h;omega
  exact b2_ (fun k:Nat=>k≤l.length∧ ∀j,j<k→(l.getD j Enc.dflt).v=(m.getD j Enc.dflt).v) (fun k=>FE l m c d k) (fun _=>SE l m) (fun k=>l.length-k) (fun k hk K hK=>aiP_ hβ hn hl K hK.1 hK.2 k hk) 0 ⟨Nat.zero_le _,fun j hj=>by omega⟩
def toldE:Told:=toldU.tree 66 (ok2 U8 U8 fun _ _ _ _=>true) (ans2 U8 U8 fun l _ m _=>bAns (f9_ l m))
theorem toldE_ok:a8_ Tryz.prog toldE:=Told.tree_ok toldU_ok adj_
theorem anz_(l:List U8)(c:Nat)(β:Bs)(K:AE→List (Option AObj)→Prop):lawE Tryz.prog toldE 100 20 β (fun _=>8) (cnOf 1 fun _=>[]) (fun _ _=>False) 51 [.slice (some ⟨0,0,some 0⟩) l.length c] (mkS [some (rowO .look l)]) (outK K)=
 (fun(z11 z12 z13 z32:Nat) (z33:List Td)=>((fun(z2 z4:Int) (z8 z22:AObj) (z15 z31 z34 z35:Bool) (z25 z29:Nat)=>((fun(z9 z10 z28:Int)=>((fun(z3:List Td) (z7 z26 z27:AObj) (z30:Nat)=>((fun(z0 z14:Td) (z5:List (Option AObj))=>((fun(z1 z6:Int)=>((fun(z16 z17 z18 z19 z20 z21 z23 z24:Int)=>(br (decide (Int.ofNat z13>(200:Int))) (K (.returned (Value.tuple (Array.mk [.slice none 0 0,.bool false]))) [some z22]) (br z15 (K (AE.panicked (Value.iface 9 (.string (ByteArray.mk #[(108:UInt8),(101:UInt8),(110:UInt8),(32:UInt8),(111:UInt8),(117:UInt8),(116:UInt8),(32:UInt8),(111:UInt8),(102:UInt8),(32:UInt8),(114:UInt8),(97:UInt8),(110:UInt8),(103:UInt8),(101:UInt8)])))) z5) (br z15 (K (AE.panicked (Value.iface 9 (.string (ByteArray.mk #[(99:UInt8),(97:UInt8),(110:UInt8),(110:UInt8),(111:UInt8),(116:UInt8),(32:UInt8),(98:UInt8),(101:UInt8),(32:UInt8),(110:UInt8),(101:UInt8),(103:UInt8),(97:UInt8),(116:UInt8),(105:UInt8),(118:UInt8),(101:UInt8)])))) z5) (br (decide (IntKind.wrap .i64 z4>(0:Int))) (need (decide ((0:Int)≤IntKind.wrap .i64 z4)) (need (Nat.ble (Int.toNat z28) 1000000) (need (Nat.ble (0+Int.toNat z28) 1000000) (need z31 (need (Nat.ble z11 1000000) (need z34 (need (ok1 U8 (fun l x=>List.all l (okA U8)) [Ta.cell z0]) (need (Nat.ble z25 1000000) (need z34 (K (.returned (Value.tuple (Array.mk [.slice (some ⟨18,0,some 0⟩) z25 z30,.bool true]))) [some z22,some z27,none,some z26,some z7,some z8,none,none,none,none,some (.cells [.int .u8 z16] true 1),none,some (.cells [.int .u8 z18] true 1),none,some (.cells [.int .u8 z20] true 1),none,some (.cells [.int .u8 z23] true 1),some (.cells [.int .u8 z16,.int .u8 z18,.int .u8 z20,.int .u8 z23] false 1),some (.row .mine 1 0 z25 fun j k=>mrgT (Nat.blt j z11) (mrgT (Nat.blt (0+j) (0+(1+1))) (mrgT (Nat.blt (0+(0+j)) 0) (nthT z33 k) (selT 1 (1+1) z3 (0+(0+j)-0) k)) (encL l (0+(0+j-(0+(1+1)))) k)) (selT 1 z32 [.sc (.int .u8 z16),.sc (.int .u8 z18),.sc (.int .u8 z20),.sc (.int .u8 z23)] (j-z11) k))])))))))))) (need z31 (need (Nat.ble z12 1000000) (need z35 (need (ok1 U8 (fun l x=>List.all l (okA U8)) [Ta.cell z14]) (need (Nat.ble z29 1000000) (need z35 (K (.returned (Value.tuple (Array.mk [.slice (some ⟨18,0,some 0⟩) z29 2,.bool true]))) [some z22,some z27,none,some z26,some z7,some z8,none,none,none,none,some (.cells [.int .u8 z17] true 1),none,some (.cells [.int .u8 z19] true 1),none,some (.cells [.int .u8 z21] true 1),none,some (.cells [.int .u8 z24] true 1),some (.cells [.int .u8 z17,.int .u8 z19,.int .u8 z21,.int .u8 z24] false 1),some (.row .mine 1 0 z29 fun j k=>mrgT (Nat.blt j z12) (mrgT (Nat.blt (0+j) (1+1)) (selT 1 (1+1) z3 (0+(0+j)) k) (encL l (0+(0+j-(1+1))) k)) (selT 1 z32 [.sc (.int .u8 z17),.sc (.int .u8 z19),.sc (.int .u8 z21),.sc (.int .u8 z24)] (j-z12) k))])))))))))))) (IntKind.wrap .u8 (Int.fdiv z6 (16777216:Int))) (IntKind.wrap .u8 (Int.fdiv z1 (16777216:Int))) (IntKind.wrap .u8 (Int.fdiv z6 (65536:Int))) (IntKind.wrap .u8 (Int.fdiv z1 (65536:Int))) (IntKind.wrap .u8 (Int.fdiv z6 (256:Int))) (IntKind.wrap .u8 (Int.fdiv z1 (256:Int))) (IntKind.wrap .u8 (Int.fdiv z6 (1:Int))) (IntKind.wrap .u8 (Int.fdiv z1 (1:Int))))) (Int.ofNat (refSum (j7_ (a4_ U8 z14)))) (Int.ofNat (refSum (j7_ (a4_ U8 z0)))))) (.fr 1 z11 z30 fun i k=>mrgT (Nat.blt (0+i) (0+(1+1))) (mrgT (Nat.blt (0+(0+i)) 0) (nthT z33 k) (selT 1 (1+1) z3 (0+(0+i)-0) k)) (encL l (0+(0+i-(0+(1+1)))) k)) (.fr 1 z12 (1+1) fun i k=>mrgT (Nat.blt (0+i) (1+1)) (selT 1 (1+1) z3 (0+(0+i)) k) (encL l (0+(0+i-(1+1))) k)) [some z22,some z27,none,some z26,some z7,some z8])) [.sc (.int .u8 z9),.sc (.int .u8 z10)] (.cells [.int .u8 z9,.int .u8 z10] false 1) (.cells [.int .u8 z10] true 1) (.cells
 [.int .u8 z9] true 1) (bif Nat.beq (Int.toNat z28) 0 then 1 else 0))) (IntKind.wrap .u8 (Int.fdiv z2 (256:Int))) (IntKind.wrap .u8 (Int.fdiv z2 (1:Int))) (IntKind.wrap .i64 z4))) (IntKind.wrap .u32 (Int.ofNat z13)) (IntKind.wrap .i64 (IntKind.wrap .i64 ((0:Int)+Int.ofNat (1+1))+Int.ofNat z13)-(0:Int)) (.cells [.slice (some ⟨4,0,none⟩) 2 2,.slice (some ⟨0,0,some 0⟩) z13 c] true 1) (.row .look 1 0 z13 (encL l)) (decide (IntKind.wrap .i64 (IntKind.wrap .i64 ((0:Int)+Int.ofNat (1+1))+Int.ofNat z13)<(0:Int))) (true&&Nat.ble (0+List.length l) z13) (true&&Nat.ble (0+z11) z11) (true&&Nat.ble (0+z12) z12) (0+(1+1)+List.length l+z32) (1+1+List.length l+z32))) (0+(1+1)+List.length l) (1+1+List.length l) l.length (1+1+1+1) [.sc (.int .u8 (0:Int))]:=by kernel_rfl
theorem akB_(l:List U8)(c:Nat)(β:Bs)(K:AE→List (Option AObj)→Prop):lawE Tryz.prog toldE 100 20 β (fun _=>8) (cnOf 1 fun _=>[]) (fun _ _=>False) 14 [.slice (some ⟨0,0,some 0⟩) l.length c] (mkS [some (rowO .look l)]) (outK K)=
 (fun(z7:Value) (z8 z11 z13:Nat)=>((fun(z14:Int) (z15:AObj) (z16:Bool)=>((fun(z2 z3:List Td)=>((fun(z0:Td)=>((fun(z10:Int)=>((fun(z1:Int) (z5:List Td)=>((fun(z9:List Td) (z12:Int)=>((fun(z4 z6:List Td)=>(br (decide (Int.ofNat z11>(200:Int))) (K (.returned (Value.tuple (Array.mk [.slice none 0 0,.bool false]))) [some z15]) (need (true&&Nat.ble (0+List.length l) z11) (need (Nat.ble z8 1000000) (need z16 (need (ok1 U8 (fun l x=>List.all l (okA U8)) [Ta.cell z0]) (need (Nat.ble z13 1000000) (need z16 (K (.returned (Value.tuple (Array.mk [.slice (some ⟨6,0,some 0⟩) z13 1,.bool true]))) [some z15,some (.row .mine 1 0 2 (putT 0 0 z2 (putT 1 0 z3 fun x=>nthT [.sc z7]))),none,none,none,some (.row .mine 1 0 4 (putT 0 0 z4 (putT 1 0 z6 (putT 2 0 z9 (putT 3 0 z5 fun x=>nthT [.sc z7]))))),some (.row .mine 1 0 z13 fun j k=>mrgT (Nat.blt j z8) (mrgT (Nat.blt (0+j) 2) (putT 0 0 z2 (putT 1 0 z3 fun x=>nthT [.sc z7]) (0+(0+(0+j))) k) (encL l (0+(0+j-2)) k)) (putT 0 0 z4 (putT 1 0 z6 (putT 2 0 z9 (putT 3 0 z5 fun x=>nthT [.sc z7]))) (0+(j-z8)) k))]))))))))) [.sc (.int .u8 (IntKind.wrap .u8 (Int.tmod (IntKind.wrap .u64 (Int.tdiv z12 (256:Int))) (256:Int))))] [.sc (.int .u8 (IntKind.wrap .u8 (Int.tmod z12 (256:Int))))])) [.sc (.int .u8 (IntKind.wrap .u8 (Int.tmod z1 (256:Int))))] (IntKind.wrap .u64 (Int.tdiv z1 (256:Int))))) (IntKind.wrap .u64 (Int.tdiv z10 (256:Int))) [.sc (.int .u8 (IntKind.wrap .u8 (Int.tmod z10 (256:Int))))])) (IntKind.wrap .u64 (Int.ofNat (refSum (j7_ (a4_ U8 z0))))))) (.fr 1 z8 1 fun i k=>mrgT (Nat.blt (0+i) 2) (putT 0 0 z2 (putT 1 0 z3 fun x=>nthT [.sc z7]) (0+(0+(0+i))) k) (encL l (0+(0+i-2)) k)))) [.sc (.int .u8 (IntKind.wrap .u8 (Int.tmod (IntKind.wrap .u64 (Int.tdiv z14 (256:Int))) (256:Int))))] [.sc (.int .u8 (IntKind.wrap .u8 (Int.tmod z14 (256:Int))))])) (IntKind.wrap .u64 (Int.ofNat z11)) (.row .look 1 0 z11 (encL l)) (true&&Nat.ble (0+z8) z8))) (.int .u8 (0:Int)) (2+List.length l) l.length (2+List.length l+4):=by kernel_rfl
theorem aaB_{α:Type}(l:List α){k n i:Nat}(h:k+n≤l.length)(hi:i<n)(d:α):((l.drop k).take n)[i]? =some (l.getD (k+i) d):=by
 rw[List.getElem?_take,if_pos hi,List.getElem?_drop]
 simp[List.getD,show k+i<l.length by omega]
theorem aiS_{α:Type}[Enc α](l:List α){k n:Nat}(h:k+n≤l.length):decL n (fun i=>encL l (k+i))=(l.drop k).take n:=by
 apply List.ext_getElem?
 intro i
 unfold decL
 rw[List.getElem?_map]
 rcases Nat.lt_or_ge i n with hi|hi
 ·rw[List.getElem?_range hi,aaB_ l h hi Enc.dflt]
  simp only[Option.map_some]
  have:Enc.dec (encL l (k+i))=l.getD (k+i) Enc.dflt:=Enc.back _
  rw[this]
 ·rw[List.getElem?_eq_none (by simpa using hi),List.getElem?_eq_none (by simp;omega)];rfl
theorem afH_{α:Type}(l:List α){k n:Nat}(h:k+n≤l.length):((l.drop k).take n).length=n:=by simp;omega
theorem P0_{l:List U8}(hl:l.all (okA U8)=true)(k n:Nat):((l.drop k).take n).all (okA U8)=true:=by
 rw[List.all_eq_true]at hl ⊢
 exact fun x hx=>hl x (List.mem_of_mem_drop (List.mem_of_mem_take hx))
theorem u4_(l:List U8){k n:Nat}(c:Nat)(h:k+n≤l.length):a4_ U8 (Td.fr 1 n c fun i=>encL l (k+i))=(l.drop k).take n:=aiS_ l h
theorem aaz_{l:List U8}(hl:l.all (okA U8)=true){k n c:Nat}(h:k+n≤l.length)(hn:n≤1000000)(hc:c≤1):okT U8 (Td.fr 1 n c fun i=>encL l (k+i))=true:=by
 simp only[okT,Bool.or_eq_true,Bool.and_eq_true]
 refine .inl ⟨⟨⟨Nat.beq_refl _,ajW_ fun i hi=> ?_⟩,Nat.ble_eq_true_of_le hc⟩,Nat.ble_eq_true_of_le hn⟩
 exact(F4_ _).2 (e1_ hl (by omega))
def strU(l:List U8):ByteArray:=⟨(l.map fun b=>UInt8.ofNat b.v.toNat).toArray⟩
theorem D7_(l:List U8){k n:Nat}(h:k+n≤l.length):s1_ n (fun j=>encL l (k+j))=strU ((l.drop k).take n):=by
 unfold s1_ strU
 congr 2
 apply List.ext_getElem?
 intro i
 rw[List.getElem?_map,List.getElem?_map]
 rcases Nat.lt_or_ge i n with hi|hi
 ·rw[List.getElem?_range hi,aaB_ l h hi Enc.dflt];rfl
 ·rw[List.getElem?_eq_none (by simpa using hi),List.getElem?_eq_none (by simp;omega)];rfl
theorem aep_(l:List U8):s1_ l.length (encL l)=strU l:=by
 have:=D7_ l (k:=0) (n:=l.length) (by omega)
 simp only[Nat.zero_add,List.drop_zero,List.take_length]at this
 exact this
theorem ahE_{l m:List U8}(hl:l.all (okA U8)=true)(hm:m.all (okA U8)=true):strU l=strU m↔l=m:=by
 constructor
 ·intro h
  unfold strU at h
  have h1:(l.map fun b=>UInt8.ofNat b.v.toNat)=m.map fun b=>UInt8.ofNat b.v.toNat:=by
   have:=congrArg ByteArray.data h
   simpa using this
  have hlen:l.length=m.length:=by
   have:=congrArg List.length h1
   simpa using this
  apply List.ext_getElem hlen
  intro i h2 h3
  have h4:=congrArg (fun q=>q[i]?) h1
  simp only[List.getElem?_map,List.getElem?_eq_getElem h2,List.getElem?_eq_getElem h3,Option.map_some,Option.some.injEq]at h4
  have a1:=e1_ hl h2
  have a2:=e1_ hm h3
  simp only[List.getD,List.getElem?_eq_getElem h2,List.getElem?_eq_getElem h3,Option.getD_some]at a1 a2
  have h5:=congrArg UInt8.toNat h4
  simp only[UInt8.toNat_ofNat']at h5
  exact abk_ (by omega)
 ·intro h;rw[h]
theorem ajn_(l:List U8)(n k:Nat):allB n (fun j=>encL l (k+j))=true:=by
 unfold allB
 rw[List.all_eq_true]
 exact fun _ _=>rfl
theorem v9_(l:List U8)(n:Nat):allB n (encL l)=true:=by
 unfold allB
 rw[List.all_eq_true]
 exact fun _ _=>rfl
def byU(n:Nat):U8:=⟨((n%256:Nat):Int)⟩
theorem akj_(n:Nat):okA U8 (byU n)=true:=(F4_ _).2 ⟨by simp[byU];omega,by simp[byU];omega⟩
def num2(n:Nat):List U8:=[byU (n/256),byU n]
def num4(n:Nat):List U8:=[byU (n/16777216),byU (n/65536),byU (n/256),byU n]
theorem alG_(n:Nat):(num2 n).all (okA U8)=true:=by simp[num2,akj_]
theorem afw_(n:Nat):(num4 n).all (okA U8)=true:=by simp[num4,akj_]
def f6_(l:List U8):List U8:=num2 l.length++l
def sumU(l:List U8):Nat:=refSum (j7_ l)
def c4_(l:List U8):List U8:=f6_ l++num4 (sumU (f6_ l))
theorem afX_(l:List U8):(f6_ l).length=2+l.length:=by simp[f6_,num2];omega
theorem l8_(l:List U8):(c4_ l).length=l.length+6:=by simp[c4_,afX_,num4];omega
theorem u7_{l:List U8}(h:l.all (okA U8)=true):(f6_ l).all (okA U8)=true:=by
 unfold f6_;rw[List.all_append,h,alG_];rfl
theorem W7_{l:List U8}(h:l.all (okA U8)=true):(c4_ l).all (okA U8)=true:=by
 unfold c4_;rw[List.all_append,u7_ h,afw_];rfl
theorem ako_(n:Nat):IntKind.wrap .u8 (n:Int)=((n%256:Nat):Int):=by
 unfold IntKind.wrap
 simp[IntKind.signed,IntKind.bits]
theorem anf_{n:Nat}(h:n<4294967296):IntKind.wrap .u32 (n:Int)=n:=by
 unfold IntKind.wrap
 simp[IntKind.signed,IntKind.bits]
 omega
theorem i7_{n:Nat}(h:n<18446744073709551616):IntKind.wrap .u64 (n:Int)=n:=by
 unfold IntKind.wrap
 simp[IntKind.signed,IntKind.bits]
 omega
theorem aqf_(n k:Nat):Int.fdiv (n:Int) (k:Int)=((n/k:Nat):Int):=(Int.ofNat_fdiv n k).symm
theorem Q3_(n k:Nat):IntKind.wrap .u8 (Int.fdiv (n:Int) (k:Int))=(byU (n/k)).v:=by
 rw[aqf_,ako_];rfl
theorem aeT_(l:List Nat)(hb: ∀i,i<l.length→l.getD i 0<256):refSum l<4294967296:=by
 have:=w6_ l hb l.length (Nat.le_refl _)
 rw[List.take_length]at this
 unfold refSum
 exact Nat.xor_lt_two_pow (n:=32) (by omega) this
theorem aen_{l:List U8}(h:l.all (okA U8)=true):sumU l<4294967296:=aeT_ _ fun i hi=>by
 rw[p0_]at hi
 rw[F8_ hi]
 have:=e1_ h hi
 omega
def isU(t:Td):Prop:= ∃v:Int,t= .sc (.int .u8 v)
theorem mrgU{t u:Td}(ht:isU t)(hu:isU u):mrgT true t u=t∧mrgT false t u=u∧ ∀b,isU (mrgT b t u):=by
 obtain⟨v,rfl⟩:=ht
 obtain⟨v',rfl⟩:=hu
 exact⟨rfl,rfl,fun b=>⟨cond b v v',rfl⟩⟩
structure RowU (e:Nat→Nat→Td) (n:Nat) (L:List U8):Prop where
 len:n=L.length
 at_: ∀i,i<n→e i 0=encL L i 0
 u: ∀i,isU (e i 0)
theorem RowU.enc(L:List U8):RowU (encL L) L.length L:=⟨rfl,fun _ _=>rfl,fun i=>⟨_,rfl⟩⟩
theorem RowU.zero(n:Nat):RowU (fun _ k=>nthT [.sc (.int .u8 0)] k) n (List.replicate n ⟨0⟩):=⟨by simp,fun i hi=>by simp[encL,List.getD,hi];rfl,fun i=>⟨0,rfl⟩⟩
theorem RowU.sel2(v0 v1:Int):RowU (fun i k=>selT 1 (1+1) [.sc (.int .u8 v0),.sc (.int .u8 v1)] i k) (1+1) [⟨v0⟩,⟨v1⟩]:=⟨rfl,fun i hi=>match i,hi with
 |0,_=>rfl
 |1,_=>rfl,fun i=>⟨_,rfl⟩⟩
theorem RowU.sel4(v0 v1 v2 v3:Int):RowU (fun i k=>selT 1 (1+1+1+1) [.sc (.int .u8 v0),.sc (.int .u8 v1),.sc (.int .u8 v2),.sc (.int .u8 v3)] i k) (1+1+1+1) [⟨v0⟩,⟨v1⟩,⟨v2⟩,⟨v3⟩]:=⟨rfl,fun i hi=>match i,hi with
 |0,_=>rfl
 |1,_=>rfl
 |2,_=>rfl
 |3,_=>rfl,fun i=>⟨_,rfl⟩⟩
theorem RowU.app{e1 e2:Nat→Nat→Td}{n1 n2:Nat}{L1 L2:List U8}(h1:RowU e1 n1 L1)(h2:RowU e2 n2 L2):RowU (fun i k=>mrgT (Nat.blt i n1) (e1 i k) (e2 (i-n1) k)) (n1+n2) (L1++L2):=by
 refine⟨by rw[h1.len,h2.len,List.length_append],fun i hi=> ?_,fun i=>(mrgU (h1.u i) (h2.u _)).2.2 _⟩
 have hu:=mrgU (h1.u i) (h2.u (i-n1))
 by_cases hil:i<n1
 ·have hb:Nat.blt i n1=true:=by simpa using hil
  show mrgT (Nat.blt i n1) _ _=_
  rw[hb,hu.1,h1.at_ i hil,aaJ_ _ _ (by rw[←h1.len];exact hil)]
 ·show mrgT (Nat.blt i n1) _ _=_
  rw[m2_ hil,hu.2.1,h2.at_ _ (by omega),aaK_ _ _ (by rw[←h1.len];omega),←h1.len]
theorem RowU.sub{e:Nat→Nat→Td}{n k m:Nat}{L:List U8}(h:RowU e n L)(hk:k+m≤n):RowU (fun i=>e (k+i)) m ((L.drop k).take m):=by
 have hl:=h.len
 refine⟨by simp;omega,fun i hi=> ?_,fun i=>h.u _⟩
 show e (k+i) 0=_
 rw[h.at_ _ (by omega)]
 show Enc.enc (L.getD (k+i) Enc.dflt) 0=Enc.enc (((L.drop k).take m).getD i Enc.dflt) 0
 have:=aaB_ L (k:=k) (n:=m) (i:=i) (by omega) hi Enc.dflt
 simp only[List.getD]at this ⊢
 rw[this];rfl
theorem RowU.put{e:Nat→Nat→Td}{n i0:Nat}{v:Int}{L:List U8}(h:RowU e n L)(hi:i0<n):RowU (putT i0 0 [.sc (.int .u8 v)] e) n (L.set i0 ⟨v⟩):=by
 have hl:=h.len
 refine⟨by simp[hl],fun i hi'=> ?_,fun i=>(mrgU ⟨v,rfl⟩ (h.u i)).2.2 _⟩
 have hu:=mrgU (t:= .sc (.int .u8 v)) ⟨v,rfl⟩ (h.u i)
 show mrgT (Nat.beq i i0) (.sc (.int .u8 v)) (e i 0)=Enc.enc ((L.set i0 ⟨v⟩).getD i Enc.dflt) 0
 by_cases hii:i=i0
 ·subst hii
  rw[Nat.beq_refl,hu.1]
  have:(L.set i ⟨v⟩).getD i Enc.dflt=⟨v⟩:=by simp[List.getD,show i<L.length by omega]
  rw[this];rfl
 ·rw[b8_ hii,hu.2.1,h.at_ i hi']
  have:(L.set i0 ⟨v⟩).getD i Enc.dflt=L.getD i Enc.dflt:=by simp[List.getD,List.getElem?_set_ne (Ne.symm hii)]
  rw[this];rfl
theorem RowU.to{e:Nat→Nat→Td}{n m:Nat}{L M:List U8}(h:RowU e n L)(hn:m=n)(hL:L=M):RowU e m M:=by subst hn hL;exact h
theorem RowU.list{e:Nat→Nat→Td}{n c:Nat}{L:List U8}(h:RowU e n L):a4_ U8 (Td.fr 1 n c e)=L:=by
 have hl:=h.len
 subst hl
 show decL L.length e=L
 rw[x7_ (e':=encL L) fun i hi=>by show u8D (e i)=u8D (encL L i);unfold u8D;rw[h.at_ i hi]]
 exact b4_ L
theorem RowU.okT{e:Nat→Nat→Td}{n c:Nat}{L:List U8}(h:RowU e n L)(hok:L.all (okA U8)=true)(hn:n≤1000000)(hc:c≤1):Ev.okT U8 (Td.fr 1 n c e)=true:=by
 have hl:=h.len
 subst hl
 simp only[Ev.okT,Bool.or_eq_true,Bool.and_eq_true]
 refine .inl ⟨⟨⟨Nat.beq_refl _,?_⟩,Nat.ble_eq_true_of_le hc⟩,Nat.ble_eq_true_of_le hn⟩
 rw[F5_ (e':=encL L) fun i hi=>by show u8Ok (e i)=u8Ok (encL L i);unfold u8Ok;rw[h.at_ i hi]]
 exact O7_ hok
theorem RowU.ok1{e:Nat→Nat→Td}{n c:Nat}{L:List U8}(h:RowU e n L)(hok:L.all (okA U8)=true)(hn:n≤1000000)(hc:c≤1):Ev.ok1 U8 (fun l _=>l.all (okA U8)) [Ta.cell (Td.fr 1 n c e)]=true:=by
 show(Ev.okT U8 _&&(a4_ U8 _).all (okA U8))=true
 rw[h.okT hok hn hc,h.list,hok];rfl
theorem RowU.obj{e:Nat→Nat→Td}{n:Nat}{L:List U8}(h:RowU e n L){k:Rk}(ρ:Rho)(s:Spot)(w:World)(ho:ObjR ρ (.row k 1 0 n e) s w):ObjR ρ (rowO k L) s w:=by
 have hl:=h.len
 subst hl
 refine ho.row_TR rfl fun i _ hi j hj F y ht=> ?_
 have hj:j<1:=hj
 have:j=0:=by omega
 subst this
 rw[h.at_ i hi]at ht
 exact ht
theorem RowU.str{e:Nat→Nat→Td}{n:Nat}{L:List U8}(h:RowU e n L):s1_ n e=strU L:=by
 have hl:=h.len
 subst hl
 rw[←aep_]
 unfold s1_
 congr 2
 exact List.map_congr_left fun i hi=>by rw[h.at_ i (List.mem_range.1 hi)]
theorem RowU.allB{e:Nat→Nat→Td}{n m:Nat}{L:List U8}(h:RowU e n L):Ev.allB m e=true:=by
 unfold Ev.allB
 rw[List.all_eq_true]
 intro i _
 obtain⟨v,hv⟩:=h.u i
 rw[hv];rfl
theorem RowU.leaf{e:Nat→Nat→Td}{n k:Nat}{L:List U8}{l:List (Option AObj)}(h:RowU e n L)(hl:l[k]? =some (some (.row .mine 1 0 n e))):a6_ l (atL l.length k (rowO .mine L)):=apZ_ hl rfl h.obj
end Go.Proofs.YtachglcffimmeaaGreat.Ev
end
section
-- PUT{
-- }PUT
namespace Go.Proofs.YtachglcffimmeaaGreat.Ev
open Go Go.Proofs Go.RowKit
def putL(l:List U8):List U8:=if 200<l.length then []else c4_ l
def putA(l:List U8)(_:Nat):Ans:= .rets [.cell (ownL (putL l) 1),.cell (.sc (.bool (decide (l.length≤200))))]
theorem md(n:Nat):IntKind.wrap .u8 (Int.tmod (n:Int) 256)=(byU n).v:=by
 have:Int.tmod (n:Int) 256=((n%256:Nat):Int):=(Int.ofNat_tmod n 256).symm
 rw[this,ako_,Nat.mod_mod];rfl
theorem dv{n:Nat}(h:n<4294967296):IntKind.wrap .u64 (Int.tdiv (n:Int) 256)=((n/256:Nat):Int):=by
 have:Int.tdiv (n:Int) 256=((n/256:Nat):Int):=(Int.ofNat_tdiv n 256).symm
 rw[this];exact i7_ (by omega)
theorem dv3(n:Nat):n/256/256/256=n/16777216:=by omega
theorem dv2(n:Nat):n/256/256=n/65536:=by omega
theorem fd1(n:Nat):IntKind.wrap .u8 (Int.fdiv (n:Int) 1)=(byU n).v:=by
 have:=Q3_ n 1
 rw[Nat.div_one]at this;exact this
theorem aoJ_(n:Nat):IntKind.wrap .u8 (Int.fdiv (n:Int) 256)=(byU (n/256)).v:=Q3_ n 256
theorem fd65(n:Nat):IntKind.wrap .u8 (Int.fdiv (n:Int) 65536)=(byU (n/65536)).v:=Q3_ n 65536
theorem fd16(n:Nat):IntKind.wrap .u8 (Int.fdiv (n:Int) 16777216)=(byU (n/16777216)).v:=Q3_ n 16777216
theorem abG_{l:List U8}{m:List (Option AObj)}{k n c0:Nat}{e:Nat→Nat→Td}(h2:l.length≤200)(hR:RowU e n (c4_ l))(hk:m[k]? =some (some (.row .mine 1 0 n e))):
  ∃m2,a6_ m m2∧ansE (putA l 0) (.returned (.tuple ⟨[.slice (some ⟨k,0,some 0⟩) n c0,.bool true]⟩)) (mkS m2):=by
 have hkl:=(List.getElem?_eq_some_iff.1 hk).1
 have hn:=hR.len
 rw[l8_]at hn
 refine⟨_,hR.leaf hk,⟨_,[k],rfl,⟨[k],[],rfl,?_,[],[],rfl,⟨rfl,?_,rfl⟩,rfl⟩,by simp⟩⟩
 ·rw[show putL l=c4_ l by unfold putL;rw[if_neg (by omega)]]
  exact U7_ hkl hR.len (fun h=>by omega)
 ·rw[decide_eq_true h2]
theorem abF_{l:List U8}{m:List (Option AObj)}(h2: ¬l.length≤200):
  ∃m2,a6_ m m2∧ansE (putA l 0) (.returned (.tuple ⟨[.slice none 0 0,.bool false]⟩)) (mkS m2):=by
 refine⟨_,a6_.refl _,⟨_,[],rfl,⟨[],[],rfl,?_,[],[],rfl,⟨rfl,?_,rfl⟩,rfl⟩,by simp⟩⟩
 ·rw[show putL l=[]by unfold putL;rw[if_pos (by omega)]]
  exact .inl ⟨rfl,rfl,rfl,rfl⟩
 ·rw[decide_eq_false h2]
theorem abs_{g:FuncId}{p:List U8→Nat→Bool}{A:List U8→Nat→Ans}
  (h: ∀(l:List U8) (c:Nat),l.length≤1000000→c≤1→p l c=true→ ∃(C:Told) (fuel n:Nat) (un:Nat→Nat) (lvs:Nat→List Nat) (ex:Nat→Kt→Prop),a8_ Tryz.prog C∧ ∀β:Bs,β.X.length=1→lawE Tryz.prog C fuel n β un (cnOf 1 lvs) ex g [.slice (some ⟨0,0,some 0⟩) l.length c] (mkS [some (rowO .look l)]) (outR (ansE (A l c)))):c5_ Tryz.prog g (ok1 U8 p) (ans1 U8 A):=by
 intro ts hok w args' F hF ha
 unfold ok1 at hok
 split at hok
 ·rename_i t
  simp only[Bool.and_eq_true]at hok
  obtain⟨h1,h2⟩:=b7_ hok.1
  obtain⟨y,m,e,hy,hm'⟩:=ha.uncons
  have:=hm'.nil_inv
  subst this
  have ha':PW (TaR w F) [.cell (tdL (a4_ U8 t) (nilT t))] args'.toList:=by rw[e];exact PW.cons (h9_ hok.1 hy) (PW.nil _)
  exact C7_ (ts:=[.cell (tdL (a4_ U8 t) (nilT t))]) follows (h _ _ h1 h2 hok.2) w args' F hF ha'
 ·cases hok
theorem U2_:c5_ Tryz.prog 14 (ok1 U8 fun l _=>l.all (okA U8)) (ans1 U8 putA):=by
 refine abs_ fun l c hl hc hok=>⟨toldE,100,20,fun _=>8,fun _=>[],fun _ _=>False,toldE_ok,fun β hβ=> ?_⟩
 show lawE _ _ _ _ _ _ _ _ _ _ _ (outK fun r m=> ∃m2,a6_ m m2∧ansE (putA l 0) r (mkS m2))
 rw[akB_]
 refine a0_ (fun q=>abF_ (by simp at q;omega)) (fun q=> ?_)
 have h2:l.length≤200:=by simp at q;omega
 have e0:IntKind.wrap .u64 (Int.ofNat l.length)=(l.length:Int):=i7_ (by omega)
 have e1:=dv (n:=l.length) (by omega)
 have hH:=(((RowU.zero 2).put (v:=(byU l.length).v) (i0:=1) (by omega)).put (v:=(byU (l.length/256)).v) (i0:=0) (by omega)).app (RowU.enc l)
 have hH:=hH.to (m:=2+l.length) (M:=f6_ l) rfl rfl
 have hs:=aen_ (u7_ hok)
 have hsum:refSum (j7_ (f6_ l))=sumU (f6_ l):=rfl
 have l1:=hH.list (c:=1)
 have o1:=hH.ok1 (c:=1) (u7_ hok) (by omega) (by omega)
 have s0:IntKind.wrap .u64 (Int.ofNat (sumU (f6_ l)))=(sumU (f6_ l):Int):=i7_ (by omega)
 have s1:=dv (n:=sumU (f6_ l)) hs
 have s2:=dv (n:=sumU (f6_ l)/256) (by omega)
 have s3:=dv (n:=sumU (f6_ l)/256/256) (by omega)
 have b1:Nat.ble (2+l.length) 1000000=true:=Nat.ble_eq_true_of_le (by omega)
 have b2:Nat.ble (2+l.length+4) 1000000=true:=Nat.ble_eq_true_of_le (by omega)
 simp only[Nat.zero_add,bleS,Bool.true_and,z3_,e0,e1,md,o1,l1,hsum,s0,s1,s2,s3,b1,b2]
 refine abG_ (k:=6) h2 ?_ rfl
 have hF:=hH.app (((((RowU.zero 4).put (v:=(byU (sumU (f6_ l))).v) (i0:=3) (by omega)).put (v:=(byU (sumU (f6_ l)/256)).v) (i0:=2) (by omega)).put (v:=(byU (sumU (f6_ l)/256/256)).v) (i0:=1) (by omega)).put (v:=(byU (sumU (f6_ l)/256/256/256)).v) (i0:=0) (by omega))
 exact hF.to rfl (by rw[dv3,dv2];rfl)
-- PUT{
theorem aig_:c5_ Tryz.prog 51 (ok1 U8 fun l _=>l.all (okA U8)) (ans1 U8 putA):=by
 refine abs_ fun l c hl hc hok=>⟨toldE,100,20,fun _=>8,fun _=>[],fun _ _=>False,toldE_ok,fun β hβ=> ?_⟩
 show lawE _ _ _ _ _ _ _ _ _ _ _ (outK fun r m=> ∃m2,a6_ m m2∧ansE (putA l 0) r (mkS m2))
 rw[anz_]
 refine a0_ (fun q=>abF_ (by simp at q;omega)) (fun q=> ?_)
 have h2:l.length≤200:=by simp at q;omega
 have w1:IntKind.wrap .i64 ((0:Int)+Int.ofNat (1+1))=2:=by decide
 have w2:IntKind.wrap .i64 ((2:Int)+Int.ofNat l.length)=((2+l.length:Nat):Int):=by
  rw[Int.ofNat_eq_natCast,w64 (by omega) (by omega)];simp
 have w3:IntKind.wrap .i64 (((2+l.length:Nat):Int)-0)=((2+l.length:Nat):Int):=by rw[Int.sub_zero];exact w64 (by omega) (by omega)
 have w4:IntKind.wrap .u32 (Int.ofNat l.length)=(l.length:Int):=anf_ (by omega)
 have d1:decide (((2+l.length:Nat):Int)<0)=false:=decide_eq_false (by omega)
 have d2:decide (((2+l.length:Nat):Int)>0)=true:=decide_eq_true (by omega)
 have d3:decide ((0:Int)≤((2+l.length:Nat):Int))=true:=decide_eq_true (by omega)
 have t1:Int.toNat ((2+l.length:Nat):Int)=2+l.length:=Int.toNat_natCast _
 have z1:Nat.beq (2+l.length) 0=false:=b8_ (by omega)
 have b1:Nat.ble (2+l.length) 1000000=true:=Nat.ble_eq_true_of_le (by omega)
 have b2:Nat.ble (1+1+l.length) 1000000=true:=Nat.ble_eq_true_of_le (by omega)
 have b3:Nat.ble (1+1+l.length+(1+1+1+1)) 1000000=true:=Nat.ble_eq_true_of_le (by omega)
 have hs:=aen_ (u7_ hok)
 have hsum:refSum (j7_ (f6_ l))=sumU (f6_ l):=rfl
 have hH:=(((RowU.zero (2+l.length)).sub (k:=0) (m:=0) (by omega)).app (RowU.sel2 (byU (l.length/256)).v (byU l.length).v)).app (RowU.enc l)
 have hH:=hH.to (m:=1+1+l.length) (M:=f6_ l) (by omega) rfl
 have l1:=hH.list (c:=0)
 have o1:=hH.ok1 (c:=0) (u7_ hok) (by omega) (by omega)
 have s0:Int.ofNat (sumU (f6_ l))=((sumU (f6_ l):Nat):Int):=rfl
 simp only[Nat.zero_add,Nat.sub_zero]at l1 o1
 simp only[w1,w2,w3,w4,d1,d2,d3,t1,z1,b1,br_t,br_f,z3_,cond_false,Nat.zero_add,Nat.sub_zero,bleS,Bool.true_and,b2,b3,fd1,aoJ_,o1,l1,hsum,s0,fd65,fd16]
 refine abG_ (k:=18) h2 ?_ rfl
 have hF:=hH.app (RowU.sel4 (byU (sumU (f6_ l)/16777216)).v (byU (sumU (f6_ l)/65536)).v (byU (sumU (f6_ l)/256)).v (byU (sumU (f6_ l))).v)
 have hF:=hF.to (m:=1+1+l.length+(1+1+1+1)) (M:=c4_ l) rfl rfl
 simp only[Nat.zero_add,Nat.sub_zero]at hF
 exact hF
-- }PUT
-- PUT{
def toldP:Told:=(toldE.tree 51 (ok1 U8 fun l _=>l.all (okA U8)) (ans1 U8 putA)).tree 14 (ok1 U8 fun l _=>l.all (okA U8)) (ans1 U8 putA)
theorem toldP_ok:a8_ Tryz.prog toldP:=Told.tree_ok (Told.tree_ok toldE_ok aig_) U2_
-- }PUT
end Go.Proofs.YtachglcffimmeaaGreat.Ev
end
section
namespace Go.Proofs.YtachglcffimmeaaGreat.Ev
open Go Go.Proofs Go.RowKit
theorem aks_(l:List U8)(c:Nat)(β:Bs)(K:AE→List (Option AObj)→Prop):lawE Tryz.prog toldP 100 20 β (fun _=>8) (cnOf 1 fun _=>[]) (fun _ _=>False) 85 [.slice (some ⟨0,0,some 0⟩) l.length c] (mkS [some (rowO .look l)]) (outK K)=
 (fun(z7:Int) (z11:Nat) (z13 z22 z26:AObj) (z15:AE)=>((fun(z0:Int) (z16:AObj)=>((fun(z4:Prop) (z6 z31:Int)=>((fun(z2:Int) (z3:Nat) (z9:Bool)=>((fun(z18:Bool) (z24 z32:Nat) (z25:Td)=>((fun(z1:Int) (z17:Td)=>((fun(z8 z10 z12 z14:Int)=>((fun(z19 z20 z21 z23:Int)=>((fun(z5 z27 z28 z29 z30:AObj)=>(br (decide (Int.ofNat z11<(2:Int))) z4 (need (Nat.ble 2 z11) (need (true&&Nat.blt 0 z11) (need (true&&Nat.blt 1 z11) (br (decide (IntKind.wrap .i64 z7>(200:Int))) (K z15 [some z16,some z22,some z13,some z26]) (br (decide (Int.ofNat z11<IntKind.wrap .i64 z0)) z4 (need (decide ((0:Int)≤IntKind.wrap .i64 z0)) (need (Nat.ble (Int.toNat z6) z11) (need z9 (need z18 (need (true&&Nat.ble (0+(Int.toNat z2-0)) z11) (need (ok1 U8 (fun l x=>List.all l (okA U8)) [Ta.cell z25]) (need z9 (need z18 (need (Nat.ble 0 (0+Int.toNat z2)&&Nat.ble (0+Int.toNat z2+z32) z11) (need (ok2 U8 U8 (fun x x_1 x_2 x_3=>true) [Ta.cell (.fr 1 (1+1+1+1) 0 (selT 1 (1+1+1+1) [.sc (.int .u8 z23),.sc (.int .u8 z19),.sc (.int .u8 z20),.sc (.int .u8 z21)])),Ta.cell z17]) (br (!f9_ [U8.mk (bif true then IntKind.wrap .u8 z8 else bif true then IntKind.wrap .u8 z10 else bif true then IntKind.wrap .u8 z12 else IntKind.wrap .u8 z14),U8.mk (bif false then IntKind.wrap .u8 z8 else bif true then IntKind.wrap .u8 z10 else bif true then IntKind.wrap .u8 z12 else IntKind.wrap .u8 z14),U8.mk (bif false then IntKind.wrap .u8 z8 else bif false then IntKind.wrap .u8 z10 else bif true then IntKind.wrap .u8 z12 else IntKind.wrap .u8 z14),U8.mk (bif false then IntKind.wrap .u8 z8 else bif false then IntKind.wrap .u8 z10 else bif false then IntKind.wrap .u8 z12 else IntKind.wrap .u8 z14)] (a4_ U8 z17)) (K z15 [some z16,some z22,some z13,some z26,none,some z27,none,some z28,none,some z29,none,some z30,some z5,none]) (need z9 (need z18 (need (Nat.ble 2 (Int.toNat z2)) (need (true&&Nat.ble (2+z24) z11) (need (okC 1 [Ta.cell (.fr 1 z24 z3 fun i=>encL l (2+i))]) (K (.returned (Value.tuple (Array.mk [.slice (some ⟨15,0,some 0⟩) z24 z3,.int .i64 z6,.int .i64 (0:Int)]))) [some z16,some (.cells [.slice (some ⟨15,0,some 0⟩) z24 z3] true 0),some (.cells [.int .i64 z6] true 0),some z13,none,some z27,none,some z28,none,some z29,none,some z30,some z5,none,none,some (.row .mine 1 0 z24 fun i=>encL l (2+i))])))))))))))))))))))))))) (.cells [.int .u8 z23,.int .u8 z19,.int .u8 z20,.int .u8 z21] false 1) (.cells [.int .u8 z23] true 1) (.cells [.int .u8 z19] true 1) (.cells [.int .u8 z20] true 1) (.cells [.int .u8 z21] true 1))) (IntKind.wrap .u8 z10) (IntKind.wrap .u8 z12) (IntKind.wrap .u8 z14) (IntKind.wrap .u8 z8))) (Int.fdiv z1 (16777216:Int)) (Int.fdiv z1 (65536:Int)) (Int.fdiv z1 (256:Int)) (Int.fdiv z1 (1:Int)))) (Int.ofNat (refSum (j7_ (a4_ U8 z25)))) (.fr 1 z32 z3 fun i=>encL l (0+Int.toNat z2+i)))) (Nat.ble (Int.toNat z2) (Int.toNat z6-0)) (Int.toNat z2-2) (Int.toNat z6-0-Int.toNat z2) (.fr 1 (Int.toNat z2-0) z3 fun i=>encL l (0+i)))) (IntKind.wrap .i64 z31) (bif Nat.beq (Int.toNat z6-0) 0 then bif Nat.beq z11 0 then c else 0 else 0) (decide ((0:Int)≤IntKind.wrap .i64 z31)))) (K (.returned (Value.tuple (Array.mk [.slice none 0 0,.int .i64 (0:Int),.int .i64 (11:Int)]))) [some z16,some z22,some z13,some (.cells [.int .i64 (11:Int)] true 0)]) (IntKind.wrap .i64 z0) (IntKind.wrap .i64 z0-(4:Int)))) (IntKind.wrap .i64 ((2:Int)+IntKind.wrap .i64 z7)+(4:Int)) (.row .look 1 0 z11 (encL l)))) (Int.ofNat (BitVec.toNat (BitVec.ofInt 64 (IntKind.wrap .i64 (IntKind.wrap .i64 (U8.v (List.getD l 0 Enc.dflt))*(256:Int)))|||BitVec.ofInt 64 (IntKind.wrap .i64 (U8.v (List.getD l 1 Enc.dflt)))))) l.length (.cells [.int .i64 (0:Int)] true 0) (.cells [.slice none 0 0] true 0) (.cells [.int .i64 (2:Int)] true 0) (.returned (Value.tuple (Array.mk [.slice none 0 0,.int .i64 (0:Int),
 .int .i64 (2:Int)]))):=by kernel_rfl
theorem ahj_(l:List U8)(c:Nat)(β:Bs)(K:AE→List (Option AObj)→Prop):lawE Tryz.prog toldP 100 20 β (fun _=>8) (cnOf 1 fun _=>[]) (fun _ _=>False) 10 [.slice (some ⟨0,0,some 0⟩) l.length c] (mkS [some (rowO .look l)]) (outK K)=
 (fun(z4:Nat) (z6:AE) (z11 z12:Int)=>((fun(z1 z3:Int) (z8:AObj)=>((fun(z0 z7:Int) (z5:Prop) (z14:Bool)=>((fun(z9 z16:Nat) (z18 z19:Bool)=>((fun(z10:Td) (z17:Bool)=>((fun(z2:List U8)=>((fun(z13:Nat)=>((fun(z15:AObj)=>(br (decide (Int.ofNat z4<(2:Int))) z5 (need (Nat.blt 0 z4) (need (true&&Nat.blt 0 z4) (need (Nat.blt 1 z4) (need (true&&Nat.blt 1 z4) (br (decide (IntKind.wrap .i64 (IntKind.wrap .i64 (IntKind.wrap .i64 z11*(256:Int))+IntKind.wrap .i64 z12)>(200:Int))) (K z6 [some z8]) (br (decide (Int.ofNat z4<IntKind.wrap .i64 z1)) z5 (need z14 (need z18 (need z19 (need z17 (need (ok1 U8 (fun l x=>List.all l (okA U8)) [Ta.cell z10]) (need (true&&Nat.ble (0+List.length z2) z13) (need (allB z13 fun j=>encL z2 (0+j)) (need (decide ((0:Int)≤IntKind.wrap .i64 z1)) (need (Nat.ble (Int.toNat z7) z4) (need (true&&Nat.ble (0+z16) z4) (need (allB z16 fun j=>encL l (0+j)) (br (!List.map (fun j=>x9_ (encL z2 (0+j) 0)) (List.range z13)==List.map (fun j=>x9_ (encL l (0+j) 0)) (List.range z16)) (K z6 [some z8,none,some z15]) (need z14 (need z18 (need z19 (need z17 (need (Nat.ble (0+z9) 1000000) (K (.returned (Value.tuple (Array.mk [.slice (some ⟨4,0,some 0⟩) z9 0,.int .i64 z7,.int .i64 (0:Int)]))) [some z8,none,some z15,some (.cells [] true 1),some (.row .mine 1 0 z9 fun j=>encL l (2+j))])))))))))))))))))))))))))) (.row .mine 1 0 z13 (encL z2)))) z2.length)) (putL (a4_ U8 z10)))) (.fr 1 z9 (bif Nat.beq z4 0 then c else 0) fun i=>encL l (2+i)) (true&&Nat.ble (2+z9) z4))) (Int.toNat z0-2) (Int.toNat z7-0) (Nat.ble (Int.toNat z0) z4) (Nat.ble 2 (Int.toNat z0)))) (IntKind.wrap .i64 z3) (IntKind.wrap .i64 z1) (K (.returned (Value.tuple (Array.mk [.slice none 0 0,.int .i64 (0:Int),.int .i64 (11:Int)]))) [some z8]) (decide ((0:Int)≤IntKind.wrap .i64 z3)))) (IntKind.wrap .i64 (IntKind.wrap .i64 (IntKind.wrap .i64 z11*(256:Int))+IntKind.wrap .i64 z12)+(6:Int)) ((2:Int)+IntKind.wrap .i64 (IntKind.wrap .i64 (IntKind.wrap .i64 z11*(256:Int))+IntKind.wrap .i64 z12)) (.row .look 1 0 z4 (encL l)))) l.length (.returned (Value.tuple (Array.mk [.slice none 0 0,.int .i64 (0:Int),.int .i64 (2:Int)]))) (U8.v (List.getD l 0 Enc.dflt)) (U8.v (List.getD l 1 Enc.dflt)):=by kernel_rfl
end Go.Proofs.YtachglcffimmeaaGreat.Ev
end
