/-
  fram.Take, ref16.TakeFrame: told to the evaluator.
-/
import Derived.Test.YtachglcffimmeaaGreatQ20
import Derived.Test.YtachglcffimmeaaGreatQ17
set_option linter.unusedVariables false
set_option linter.unusedSimpArgs false
set_option maxRecDepth 1000000
namespace Go.Proofs.YtachglcffimmeaaGreat.Ev
open Go Go.Proofs Go.RowKit
def lenU(l:List U8):Nat:=(l.getD 0 Enc.dflt).v.toNat*256+(l.getD 1 Enc.dflt).v.toNat
def midU(l:List U8):List U8:=(l.drop 2).take (lenU l)
def tkE(l:List U8):Nat:=if l.length<2 then 11 else if 200<lenU l then 2 else if l.length<lenU l+6 then 11 else if e7_ (c6_ (midU l)) (l.take (lenU l+6))then 0 else 2
def tkL(l:List U8):List U8:=if tkE l=0 then midU l else []
def tkN(l:List U8):Nat:=if tkE l=0 then lenU l+6 else 0
def tkC(l:List U8):Nat:=if tkE l=0 then 0 else 1
def tkA(l:List U8)(_:Nat):Ans:= .rets [.cell (ownL (tkL l) (tkC l)),.cell (.sc (.int .i64 (tkN l:Nat))),.cell (.sc (.int .i64 (tkE l:Nat)))]
def h8_(l:List U8):List UInt8:=l.map fun b=>UInt8.ofNat b.v.toNat
theorem X7_(l:List U8){k n:Nat}(h:k+n≤l.length):List.map (fun j=>v8_ (encL l (k+j) 0)) (List.range n)=h8_ ((l.drop k).take n):=by
 have:=S2_ l h
 unfold j5_ strU at this
 have:=congrArg ByteArray.data this
 simpa [h8_]using this
theorem X8_(l:List U8):List.map (fun j=>v8_ (encL l j 0)) (List.range l.length)=h8_ l:=by
 have:=X7_ l (k:=0) (n:=l.length) (by omega)
 simp only[Nat.zero_add,List.drop_zero,List.take_length]at this
 exact this
theorem ade_(l:List U8){n:Nat}(h:n≤l.length):List.map (fun j=>v8_ (encL l j 0)) (List.range n)=h8_ (l.take n):=by
 have:=X7_ l (k:=0) (n:=n) (by omega)
 simp only[Nat.zero_add,List.drop_zero]at this
 exact this
theorem adf_{l m:List U8}(hl:l.all (okA U8)=true)(hm:m.all (okA U8)=true):h8_ l=h8_ m↔l=m:=by
 rw[←ahD_ hl hm]
 unfold strU h8_
 exact⟨fun h=>by rw[h],fun h=>by have:=congrArg ByteArray.data h;simpa using this⟩
theorem y6_{l m:List U8}(hl:l.all (okA U8)=true)(hm:m.all (okA U8)=true):(h8_ l==h8_ m)=e7_ l m:=by
 rw[Bool.eq_iff_iff,beq_iff_eq,adf_ hl hm,q6_]
theorem ahA_{l:List U8}(h:l.all (okA U8)=true)(n:Nat):(l.take n).all (okA U8)=true:=by
 have:=O5_ h 0 n
 simpa using this
theorem afK_{l:List U8}(h:l.all (okA U8)=true)(h2:2≤l.length):lenU l<65536:=by
 have a:=e3_ h (i:=0) (by omega)
 have b:=e3_ h (i:=1) (by omega)
 unfold lenU;omega
theorem aiL_{l:List U8}(h:l.all (okA U8)=true)(h2:2≤l.length):IntKind.wrap .i64 (IntKind.wrap .i64 (IntKind.wrap .i64 (l.getD 0 Enc.dflt).v*256)+IntKind.wrap .i64 (l.getD 1 Enc.dflt).v)=(lenU l:Int):=by
 have a:=e3_ h (i:=0) (by omega)
 have b:=e3_ h (i:=1) (by omega)
 unfold lenU
 rw[w64 (x:=(l.getD 0 Enc.dflt).v) (by omega) (by omega),w64 (x:=(l.getD 1 Enc.dflt).v) (by omega) (by omega),w64 (x:=(l.getD 0 Enc.dflt).v*256) (by omega) (by omega),w64 (by omega) (by omega)]
 omega
theorem alI_{a b:Nat}(ha:a<256)(hb:b<256):(BitVec.ofInt 64 ((a:Int)*256)|||BitVec.ofInt 64 (b:Int)).toNat=a*256+b:=by
 have h1:(BitVec.ofInt 64 ((a:Int)*256)).toNat=a*256:=by
  rw[show((a:Int)*256)=((a*256:Nat):Int)by simp,BitVec.ofInt_natCast]
  simp;omega
 have h2:(BitVec.ofInt 64 (b:Int)).toNat=b:=by
  rw[BitVec.ofInt_natCast]
  simp;omega
 rw[BitVec.toNat_or,h1,h2]
 have:=Nat.two_pow_add_eq_or_of_lt (i:=8) (b:=b) hb a
 rw[show a*256=2^8*a by omega]
 exact this.symm
theorem amn_{l:List U8}(h:l.all (okA U8)=true)(h2:2≤l.length):IntKind.wrap .i64 (Int.ofNat (BitVec.toNat (BitVec.ofInt 64 (IntKind.wrap .i64 (IntKind.wrap .i64 (l.getD 0 Enc.dflt).v*256))|||BitVec.ofInt 64 (IntKind.wrap .i64 (l.getD 1 Enc.dflt).v))))=(lenU l:Int):=by
 have a:=e3_ h (i:=0) (by omega)
 have b:=e3_ h (i:=1) (by omega)
 rw[w64 (x:=(l.getD 0 Enc.dflt).v) (by omega) (by omega),w64 (x:=(l.getD 1 Enc.dflt).v) (by omega) (by omega),w64 (x:=(l.getD 0 Enc.dflt).v*256) (by omega) (by omega)]
 unfold lenU
 generalize(l.getD 0 Enc.dflt).v=x at*
 generalize(l.getD 1 Enc.dflt).v=y at*
 obtain⟨x,rfl⟩:=Int.eq_ofNat_of_zero_le a.1
 obtain⟨y,rfl⟩:=Int.eq_ofNat_of_zero_le b.1
 rw[alI_ (by omega) (by omega),Int.toNat_natCast,Int.toNat_natCast]
 exact w64 (by rw[Int.ofNat_eq_natCast];omega) (by rw[Int.ofNat_eq_natCast];omega)
theorem O6_{l:List U8}(h:2+lenU l≤l.length):(midU l).length=lenU l:=afF_ l h
theorem afG_{l:List U8}(h:l.all (okA U8)=true):(midU l).all (okA U8)=true:=O5_ h _ _
theorem afV_{l:List U8}(h:l.all (okA U8)=true)(h2:2+lenU l≤l.length):g2_ (midU l)=l.take (2+lenU l):=by
 unfold g2_
 rw[O6_ h2]
 have a:=e3_ h (i:=0) (by omega)
 have b:=e3_ h (i:=1) (by omega)
 have hx:byU (lenU l/256)=l.getD 0 Enc.dflt:=abh_ (by show((lenU l/256%256:Nat):Int)=_;unfold lenU;omega)
 have hy:byU (lenU l)=l.getD 1 Enc.dflt:=abh_ (by show((lenU l%256:Nat):Int)=_;unfold lenU;omega)
 unfold num2
 rw[hx,hy]
 unfold midU
 generalize lenU l=n at*
 match l,h2 with
 |x::y::l,_=>
  show [x,y]++l.take n=_
  rw[show 2+n=n+1+1 by omega];rfl
 |[x],h=>simp at h;omega
 |[],h=>simp at h
theorem apW_{l:List U8}{n:Nat}(h:n+6≤l.length):l.take (n+6)=l.take (2+n)++(l.drop (2+n)).take 4:=by
 rw[show n+6=(2+n)+4 by omega,List.take_add]
theorem aaZ_{a b c d:List U8}(h:a.length=c.length):a++b=c++d↔a=c∧b=d:=by
 constructor
 ·intro e;exact List.append_inj e h
 ·rintro⟨rfl,rfl⟩;rfl
theorem agd_{l:List U8}(h:l.all (okA U8)=true)(h6:lenU l+6≤l.length):e7_ (c6_ (midU l)) (l.take (lenU l+6))=e7_ (num4 (sumU (l.take (2+lenU l)))) ((l.drop (2+lenU l)).take 4):=by
 rw[Bool.eq_iff_iff,q6_,q6_,apW_ h6]
 unfold c6_
 rw[afV_ h (by omega),aaZ_ rfl]
 exact⟨fun h=>h.2,fun h=>⟨rfl,h⟩⟩
theorem S0_{l:List U8}{m:List (Option AObj)}{k n c0:Nat}{e:Nat→Nat→Td}{x y:Int}(h0:tkE l=0)(hR:RowU e n (midU l))(hk:m[k]? =some (some (.row .mine 1 0 n e)))(hc:n=0→c0=0)(hx:x=((lenU l+6:Nat):Int))(hy:y=0):
  ∃m2,a6_ m m2∧ansE (tkA l 0) (.returned (.tuple ⟨[.slice (some ⟨k,0,some 0⟩) n c0,.int .i64 x,.int .i64 y]⟩)) (mkS m2):=by
 subst hx hy
 have hkl:=(List.getElem?_eq_some_iff.1 hk).1
 refine⟨_,hR.leaf hk,⟨_,[k],rfl,⟨[k],[],rfl,?_,[],[],rfl,⟨rfl,?_,rfl⟩,[],[],rfl,⟨rfl,?_,rfl⟩,rfl⟩,by simp⟩⟩
 ·unfold tkL tkC
  rw[if_pos h0,if_pos h0]
  exact E7_ hkl hR.len hc
 ·unfold tkN;rw[if_pos h0]
 ·rw[h0];rfl
theorem tno_{l:List U8}{m:List (Option AObj)}{q:Nat}{y:Int}(h0:tkE l=q)(h1:q≠0)(hy:y=(q:Int)):
  ∃m2,a6_ m m2∧ansE (tkA l 0) (.returned (.tuple ⟨[.slice none 0 0,.int .i64 0,.int .i64 y]⟩)) (mkS m2):=by
 subst h0 hy
 refine⟨_,a6_.refl _,⟨_,[],rfl,⟨[],[],rfl,?_,[],[],rfl,⟨rfl,?_,rfl⟩,[],[],rfl,⟨rfl,rfl,rfl⟩,rfl⟩,by simp⟩⟩
 ·unfold tkL tkC
  rw[if_neg h1,if_neg h1]
  exact .inl ⟨rfl,rfl,rfl,rfl⟩
 ·unfold tkN;rw[if_neg h1];rfl
theorem aar_{l:List U8}(hl:l.all (okA U8)=true){k n c:Nat}(h:k+n≤l.length)(hn:n≤1000000)(hc:c≤1):ok1 U8 (fun l _=>l.all (okA U8)) [Ta.cell (Td.fr 1 n c fun i=>encL l (k+i))]=true:=by
 show(okT U8 _&&(a3_ U8 _).all (okA U8))=true
 rw[aap_ hl h hn hc,o9_ l c h,O5_ hl];rfl
theorem acu_:c3_ Tryz.prog 10 (ok1 U8 fun l _=>l.all (okA U8)) (ans1 U8 tkA):=by
 refine abn_ fun l c hl hc hok=>⟨toldP,100,20,fun _=>8,fun _=>[],fun _ _=>False,toldP_ok,fun β hβ=> ?_⟩
 show lawE _ _ _ _ _ _ _ _ _ _ _ (outK fun r m=> ∃m2,a6_ m m2∧ansE (tkA l 0) r (mkS m2))
 rw[ahm_]
 refine a0_ (fun q=>tno_ (q:=11) (by simp at q;unfold tkE;rw[if_pos (by omega)]) (by omega) rfl) (fun q=> ?_)
 have h2:2≤l.length:=by simp at q;omega
 have n2: ¬l.length<2:=by omega
 have c0:Nat.blt 0 l.length=true:=by simp;omega
 have c1:Nat.blt 1 l.length=true:=by simp;omega
 have W1:=aiL_ hok h2
 have hlt:=afK_ hok h2
 simp only[c0,c1,Bool.true_and,k8_,W1]
 refine a0_ (fun q1=>tno_ (q:=2) (by simp at q1;unfold tkE;rw[if_neg n2,if_pos (by omega)]) (by omega) rfl) (fun q1=> ?_)
 have h200: ¬200<lenU l:=by simp at q1;omega
 have W2:IntKind.wrap .i64 ((lenU l:Int)+6)=((lenU l+6:Nat):Int):=w64 (by omega) (by omega)
 have W3:IntKind.wrap .i64 (2+(lenU l:Int))=((2+lenU l:Nat):Int):=by rw[w64 (by omega) (by omega)];simp
 simp only[W2,W3]
 refine a0_ (fun q2=>tno_ (q:=11) (by have q2:=of_decide_eq_true q2;rw[Int.ofNat_eq_natCast]at q2;unfold tkE;rw[if_neg n2,if_neg h200,if_pos (by omega)]) (by omega) rfl) (fun q2=> ?_)
 have h6:lenU l+6≤l.length:=by
  have q2:=of_decide_eq_false q2
  rw[Int.ofNat_eq_natCast]at q2;omega
 have n6: ¬l.length<lenU l+6:=by omega
 have d1:decide ((0:Int)≤((2+lenU l:Nat):Int))=true:=decide_eq_true (by omega)
 have d2:decide ((0:Int)≤((lenU l+6:Nat):Int))=true:=decide_eq_true (by omega)
 have b1:Nat.ble (2+lenU l) l.length=true:=Nat.ble_eq_true_of_le (by omega)
 have b2:Nat.ble 2 (2+lenU l)=true:=Nat.ble_eq_true_of_le (by omega)
 have b3:Nat.ble (lenU l+6) l.length=true:=Nat.ble_eq_true_of_le h6
 have b4:Nat.ble (lenU l) 1000000=true:=Nat.ble_eq_true_of_le (by omega)
 have s1:2+lenU l-2=lenU l:=by omega
 have z1:Nat.beq l.length 0=false:=b7_ (by omega)
 have o1:=aar_ hok (k:=2) (n:=lenU l) (c:=0) (by omega) (by omega) (by omega)
 have l1:a3_ U8 (Td.fr 1 (lenU l) 0 fun i=>encL l (2+i))=midU l:=o9_ l 0 (by omega)
 have hml:=O6_ (l:=l) (by omega)
 have p1:putL (midU l)=c6_ (midU l):=by unfold putL;rw[if_neg (by omega)]
 have hfo:=W3_ (afG_ hok)
 have B1:=X8_ (c6_ (midU l))
 have B2:=ade_ l h6
 have B3:(h8_ (c6_ (midU l))==h8_ (l.take (lenU l+6)))=e7_ (c6_ (midU l)) (l.take (lenU l+6)):=y6_ hfo (ahA_ hok _)
 simp only[Int.toNat_natCast,s1,z1,cond_false,o1,l1,p1,d1,d2,b1,b2,b3,b4,Nat.zero_add,Nat.sub_zero,bleS,w4_,Bool.true_and,k8_,B1,B2,B3]
 refine a0_ (fun q3=>tno_ (q:=2) (by rw[Bool.not_eq_true']at q3;unfold tkE;rw[if_neg n2,if_neg h200,if_neg n6,q3];rfl) (by omega) rfl) (fun q3=> ?_)
 rw[Bool.not_eq_false']at q3
 refine S0_ (k:=4) (by unfold tkE;rw[if_neg n2,if_neg h200,if_neg n6,if_pos q3]) ((RowU.enc l).sub (k:=2) (m:=lenU l) (by omega)) rfl (fun _=>rfl) rfl rfl
theorem aef_:c3_ Tryz.prog 85 (ok1 U8 fun l _=>l.all (okA U8)) (ans1 U8 tkA):=by
 refine abn_ fun l c hl hc hok=>⟨toldP,100,20,fun _=>8,fun _=>[],fun _ _=>False,toldP_ok,fun β hβ=> ?_⟩
 show lawE _ _ _ _ _ _ _ _ _ _ _ (outK fun r m=> ∃m2,a6_ m m2∧ansE (tkA l 0) r (mkS m2))
 rw[akB_]
 refine a0_ (fun q=>tno_ (q:=11) (by simp at q;unfold tkE;rw[if_pos (by omega)]) (by omega) rfl) (fun q=> ?_)
 have h2:2≤l.length:=by simp at q;omega
 have n2: ¬l.length<2:=by omega
 have c0:Nat.blt 0 l.length=true:=by simp;omega
 have c1:Nat.blt 1 l.length=true:=by simp;omega
 have c2:Nat.ble 2 l.length=true:=Nat.ble_eq_true_of_le h2
 have W1:=amn_ hok h2
 have hlt:=afK_ hok h2
 simp only[c0,c1,c2,Bool.true_and,k8_,W1]
 refine a0_ (fun q1=>tno_ (q:=2) (by simp at q1;unfold tkE;rw[if_neg n2,if_pos (by omega)]) (by omega) rfl) (fun q1=> ?_)
 have h200: ¬200<lenU l:=by simp at q1;omega
 have W3:IntKind.wrap .i64 (2+(lenU l:Int))=((2+lenU l:Nat):Int):=by rw[w64 (by omega) (by omega)];simp
 have W2:IntKind.wrap .i64 (((2+lenU l:Nat):Int)+4)=((lenU l+6:Nat):Int):=by rw[w64 (by omega) (by omega)];omega
 have W4:IntKind.wrap .i64 (((lenU l+6:Nat):Int)-4)=((2+lenU l:Nat):Int):=by rw[w64 (by omega) (by omega)];omega
 simp only[W3,W2,W4]
 refine a0_ (fun q2=>tno_ (q:=11) (by have q2:=of_decide_eq_true q2;rw[Int.ofNat_eq_natCast]at q2;unfold tkE;rw[if_neg n2,if_neg h200,if_pos (by omega)]) (by omega) rfl) (fun q2=> ?_)
 have h6:lenU l+6≤l.length:=by
  have q2:=of_decide_eq_false q2
  rw[Int.ofNat_eq_natCast]at q2;omega
 have n6: ¬l.length<lenU l+6:=by omega
 have d1:decide ((0:Int)≤((2+lenU l:Nat):Int))=true:=decide_eq_true (by omega)
 have d2:decide ((0:Int)≤((lenU l+6:Nat):Int))=true:=decide_eq_true (by omega)
 have b1:Nat.ble (2+lenU l) l.length=true:=Nat.ble_eq_true_of_le (by omega)
 have b2:Nat.ble 2 (2+lenU l)=true:=Nat.ble_eq_true_of_le (by omega)
 have b3:Nat.ble (lenU l+6) l.length=true:=Nat.ble_eq_true_of_le h6
 have b5:Nat.ble (2+lenU l) (lenU l+6)=true:=Nat.ble_eq_true_of_le (by omega)
 have b0: ∀n,Nat.ble 0 n=true:=fun n=>by simp
 have s1:2+lenU l-2=lenU l:=by omega
 have s4:lenU l+6-(2+lenU l)=4:=by omega
 have z1:Nat.beq l.length 0=false:=b7_ (by omega)
 have z2:Nat.beq (lenU l+6) 0=false:=b7_ (by omega)
 have z3:Nat.beq (2+lenU l) 0=false:=b7_ (by omega)
 have o1:ok1 U8 (fun l _=>l.all (okA U8)) [Ta.cell (Td.fr 1 (2+lenU l) 0 (encL l))]=true:=by
  have:=aar_ hok (k:=0) (n:=2+lenU l) (c:=0) (by omega) (by omega) (by omega)
  rw[encZ]at this;exact this
 have l1:a3_ U8 (Td.fr 1 (2+lenU l) 0 (encL l))=l.take (2+lenU l):=agx_ l (by omega)
 have l2:a3_ U8 (Td.fr 1 4 0 fun i=>encL l (2+lenU l+i))=(l.drop (2+lenU l)).take 4:=o9_ l 0 (by omega)
 have t4:okT U8 (Td.fr 1 4 0 fun i=>encL l (2+lenU l+i))=true:=aap_ hok (by omega) (by omega) (by omega)
 have hsum:refSum (j7_ (l.take (2+lenU l)))=sumU (l.take (2+lenU l)):=rfl
 have s0:Int.ofNat (sumU (l.take (2+lenU l)))=((sumU (l.take (2+lenU l)):Nat):Int):=rfl
 have o3:ok2 U8 U8 (fun _ _ _ _=>true) [Ta.cell (Td.fr 1 (1+1+1+1) 0 (selT 1 (1+1+1+1) [Td.sc (Value.int IntKind.u8 (byU (sumU (l.take (2+lenU l))/16777216)).v),Td.sc (Value.int IntKind.u8 (byU (sumU (l.take (2+lenU l))/65536)).v),Td.sc (Value.int IntKind.u8 (byU (sumU (l.take (2+lenU l))/256)).v),Td.sc (Value.int IntKind.u8 (byU (sumU (l.take (2+lenU l)))).v)])),Ta.cell (Td.fr 1 4 0 fun i=>encL l (2+lenU l+i))]=true:=by
  show(okT U8 _&&okT U8 _&&true)=true
  exact Bool.and_eq_true_iff.2 ⟨Bool.and_eq_true_iff.2 ⟨(RowU.sel4 (byU (sumU (l.take (2+lenU l))/16777216)).v (byU (sumU (l.take (2+lenU l))/65536)).v (byU (sumU (l.take (2+lenU l))/256)).v (byU (sumU (l.take (2+lenU l)))).v).okT (afv_ (sumU (l.take (2+lenU l)))) (by omega) (by omega),t4⟩,rfl⟩
 have o4:okC 1 [Ta.cell (Td.fr 1 (lenU l) 0 fun i=>encL l (2+i))]=true:=afr_ (by omega) (by omega)
 have hF:=agd_ hok h6
 simp only[Int.toNat_natCast,s1,s4,z1,z2,z3,cond_false,cond_true,d1,d2,b0,b1,b2,b3,b5,Nat.zero_add,Nat.sub_zero,bleS,Bool.true_and,Bool.and_true,k8_,o1,l1,hsum,s0,fd1,aoV_,fd65,fd16,l2,o3,o4]
 have hN:e7_ (c6_ (midU l)) (l.take (lenU l+6))=e7_ [⟨(byU (sumU (l.take (2+lenU l))/16777216)).v⟩,⟨(byU (sumU (l.take (2+lenU l))/65536)).v⟩,⟨(byU (sumU (l.take (2+lenU l))/256)).v⟩,⟨(byU (sumU (l.take (2+lenU l)))).v⟩] ((l.drop (2+lenU l)).take 4):=hF
 refine nd_ (Nat.ble_eq_true_of_le (by omega)) ?_
 rw[←hN]
 refine a0_ (fun q3=>tno_ (q:=2) (by rw[Bool.not_eq_true']at q3;unfold tkE;rw[if_neg n2,if_neg h200,if_neg n6,q3];rfl) (by omega) rfl) (fun q3=> ?_)
 rw[Bool.not_eq_false']at q3
 refine S0_ (k:=15) (by unfold tkE;rw[if_neg n2,if_neg h200,if_neg n6,if_pos q3]) ((RowU.enc l).sub (k:=2) (m:=lenU l) (by omega)) rfl (fun _=>rfl) rfl rfl
def Z5_:Told:=(toldP.tree 85 (ok1 U8 fun l _=>l.all (okA U8)) (ans1 U8 tkA)).tree 10 (ok1 U8 fun l _=>l.all (okA U8)) (ans1 U8 tkA)
theorem M1_:a9_ Tryz.prog Z5_:=Told.tree_ok (Told.tree_ok toldP_ok aef_) acu_
theorem lU(l:List U8)(c:Nat):a3_ U8 (Td.fr 1 l.length c (encL l))=l:=lT_ l c
theorem ok1U{l:List U8}{c:Nat}(hok:l.all (okA U8)=true)(hl:l.length≤1000000)(hc:c≤1):ok1 U8 (fun l _=>l.all (okA U8)) [Ta.cell (Td.fr 1 l.length c (encL l))]=true:=(RowU.enc l).ok1 hok hl hc
theorem y1_{l m:List U8}(h:l.length≤200):lenU (c6_ l++m)=l.length:=by
 show(byU (l.length/256)).v.toNat*256+(byU l.length).v.toNat=_
 show((l.length/256%256:Nat):Int).toNat*256+((l.length%256:Nat):Int).toNat=_
 rw[Int.toNat_natCast,Int.toNat_natCast]
 omega
theorem W2_{l m:List U8}(h:l.length≤200):midU (c6_ l++m)=l:=by
 unfold midU
 rw[y1_ h]
 show((num2 l.length++l++num4 _++m).drop 2).take l.length=l
 rw[List.append_assoc,List.append_assoc]
 show(l++(num4 _++m)).take l.length=l
 rw[List.take_append_of_le_length (Nat.le_refl _),List.take_length]
structure Ld where
 l:List U8
 c:Nat
def ldE(a:Ld)(_:Nat):Td:= .fr 1 a.l.length a.c (encL a.l)
instance encLd:Enc Ld where
 es:=1
 enc:=ldE
 dec c:=⟨a3_ U8 (c 0),nilT (c 0)⟩
 ok c:=okT U8 (c 0)
 dflt:=⟨[],1⟩
 good c:=p1_ U8 (c 0)
 okgood c h:=h3_ h
 law c h w F j y hj ht:=by
  have:j=0:=by omega
  subst this
  exact g3_ (α:=U8) h ht
 back a:=by
  obtain⟨l,c⟩:=a
  show(⟨decL l.length (encL l),c⟩:Ld)=_
  rw[b6_]
 mrg a b w F j y hj:=⟨d7_ (α:=U8) (by decide),d0_ (α:=U8) (by decide)⟩
theorem aoN_{a a':List U8}{c c':Nat}(h1:a=a')(h2:c=c'):(⟨a,c⟩:Ld)=⟨a',c'⟩:=by subst h1 h2;rfl
instance:EncM Ld where
 cong c c' h:=by
  have h0:c 0=c' 0:=h 0 (by show 0<1;omega)
  exact⟨by show(⟨a3_ U8 (c 0),nilT (c 0)⟩:Ld)=_;rw[h0];rfl,by show okT U8 (c 0)=_;rw[h0];rfl⟩
 mt a b:=by
  obtain⟨l,c⟩:=a
  obtain⟨p1,p2,p3⟩:=aoK_ (α:=U8) (by decide) l b.l c b.c
  exact⟨aoN_ p1 p2,p3⟩
 mf a b:=by
  obtain⟨l,c⟩:=b
  obtain⟨p1,p2,p3⟩:=aoL_ (α:=U8) (by decide) a.l l a.c c
  exact⟨aoN_ p1 p2,p3⟩
theorem aoI_{a:Ld}(h1:a.l.all (okA U8)=true)(h2:a.l.length≤1000000)(h3:a.c≤1):okA Ld a=true:=b9_ h1 h2 h3
theorem acN_{a:Ld}(h:okA Ld a=true):a.l.all (okA U8)=true∧a.l.length≤1000000∧a.c≤1:=by
 have h:okT U8 (tdL a.l a.c)=true:=h
 have h1:=b4_ h
 have h2:=alO_ (α:=U8) (fun c hc=>by have:=t7_ hc;exact(s7_ _).2 this.2) h
 rw[lT_]at h1 h2
 exact⟨h2,h1.1,h1.2⟩
def fdF:Nat→List U8→List Ld×List U8×Nat
 |0,l=>([],l,tkE l)
 |n+1,l=>if tkE l=0 then(⟨midU l,0⟩::(fdF n (l.drop (lenU l+6))).1,(fdF n (l.drop (lenU l+6))).2)else([],l,tkE l)
def fd(l:List U8):List Ld×List U8×Nat:=fdF l.length l
theorem s3_{l:List U8}(h:tkE l=0):lenU l+6≤l.length∧lenU l≤200∧2≤l.length:=by
 unfold tkE at h
 by_cases h1:l.length<2
 ·rw[if_pos h1]at h;omega
 ·rw[if_neg h1]at h
  by_cases h2:200<lenU l
  ·rw[if_pos h2]at h;omega
  ·rw[if_neg h2]at h
   by_cases h3:l.length<lenU l+6
   ·rw[if_pos h3]at h;omega
   ·omega
theorem aaB_: ∀(n:Nat) (l:List U8),l.length≤n→fdF n l=fd l:=by
 intro n
 induction n using Nat.strongRecOn with
 |_ n ih=>
  intro l h
  unfold fd
  by_cases h0:tkE l=0
  ·have h6:=s3_ h0
   cases n with
   |zero=>omega
   |succ n=>
    cases hm:l.length with
    |zero=>omega
    |succ m=>
     simp only[fdF,if_pos h0]
     have hd:(l.drop (lenU l+6)).length≤m:=by simp;omega
     rw[ih n (by omega) _ (by omega),ih m (by omega) _ hd]
  ·cases n with
   |zero=>cases hm:l.length with
    |zero=>rfl
    |succ m=>simp only[fdF,if_neg h0]
   |succ n=>cases hm:l.length with
    |zero=>simp only[fdF,if_neg h0]
    |succ m=>simp only[fdF,if_neg h0]
theorem aiU_{l:List U8}(h:tkE l=0):fd l=(⟨midU l,0⟩::(fd (l.drop (lenU l+6))).1,(fd (l.drop (lenU l+6))).2):=by
 have h6:=s3_ h
 rw[←aaB_ (l.length+1) l (by omega)]
 simp only[fdF,if_pos h]
 rw[aaB_ _ _ (by simp)]
theorem P4_{l:List U8}(h:tkE l≠0):fd l=([],l,tkE l):=by
 rw[←aaB_ (l.length+1) l (by omega)]
 simp only[fdF,if_neg h]
theorem tkE_cases(l:List U8):tkE l=0∨tkE l=2∨tkE l=11:=by
 unfold tkE
 split
 ·exact .inr (.inr rfl)
 ·split
  ·exact .inr (.inl rfl)
  ·split
   ·exact .inr (.inr rfl)
   ·split
    ·exact .inl rfl
    ·exact .inr (.inl rfl)
theorem akp_(P:List U8→Prop)(h0: ∀l,tkE l≠0→P l)(h1: ∀l,tkE l=0→P (l.drop (lenU l+6))→P l): ∀l,P l:=by
 suffices h: ∀n (l:List U8),l.length≤n→P l from fun l=>h _ l (Nat.le_refl _)
 intro n
 induction n with
 |zero=>
  intro l h
  refine h0 l fun h2=> ?_
  have:=s3_ h2;omega
 |succ n ih=>
  intro l h
  by_cases h2:tkE l=0
  ·have:=s3_ h2
   exact h1 l h2 (ih _ (by simp;omega))
  ·exact h0 l h2
theorem agt_{l:List U8}(h:l.all (okA U8)=true)(n:Nat):(l.drop n).all (okA U8)=true:=by
 rw[List.all_eq_true]at h ⊢
 exact fun x hx=>h x (List.mem_of_mem_drop hx)
def FdOk(l:List U8):Prop:=l.all (okA U8)=true→(fd l).1.all (okA Ld)=true∧(fd l).2.1.all (okA U8)=true∧(fd l).2.1.length≤l.length∧(fd l).1.length≤l.length∧((fd l).2.2=2∨(fd l).2.2=11)∧((fd l).2.2=11→(fd l).2.1.length≤205)
theorem aqn_: ∀(l:List U8),FdOk l:=by
 refine akp_ FdOk (fun l h=> ?_) (fun l h ih=> ?_)<;>unfold FdOk<;>intro hl
 ·rw[P4_ h]
  refine⟨rfl,hl,Nat.le_refl _,Nat.zero_le _,(tkE_cases l).resolve_left h,fun h2=> ?_⟩
  have h2:tkE l=11:=h2
  show l.length≤205
  unfold tkE at h2
  split at h2
  ·omega
  ·split at h2
   ·omega
   ·split at h2
    ·omega
    ·split at h2<;>omega
 ·have h6:=s3_ h
  obtain⟨i1,i2,i3,i4,i5,i6⟩:=ih (agt_ hl _)
  rw[aiU_ h]
  have hm:=O6_ (l:=l) (by omega)
  refine⟨?_,i2,?_,?_,i5,i6⟩
  ·show(List.all ((⟨midU l,0⟩:Ld)::(fd (l.drop (lenU l+6))).1) (okA Ld))=true
   rw[List.all_cons,i1,aoI_ (afG_ hl) (by show(midU l).length≤_;omega) (by show 0≤1;omega)];rfl
  ·refine Nat.le_trans i3 ?_;simp
  ·simp at i4 ⊢;omega
def lvFd:AX→List Nat:=fun x=>match x with
 | .panic _=>[4,5]
 |_=>[4,5,6]
def dsFd:List ADef:=[ADef.mk (Fn.func 61) [] [.pointer (some ⟨4,0,none⟩),.pointer (some ⟨2,0,none⟩),.pointer (some ⟨3,0,none⟩)]]
def FFd:AFr:=mkFD 23 [(4,.pointer (some ⟨2,0,none⟩)),(5,.pointer (some ⟨3,0,none⟩)),(6,.pointer (some ⟨4,0,none⟩))] dsFd
def FFp:AFr:=mkFD 23 [(4,.pointer (some ⟨2,0,none⟩)),(5,.pointer (some ⟨3,0,none⟩))] dsFd
def SFd(l m a:List U8)(k n c:Nat)(ls:List Ld):ASt:=mkS [some (rowO .look l),some (rowO .look m),some (.cells [.slice none 0 0,.bool false] true 0),some (.cells [.slice none 0 0] true 0),some (.cells [.slice (some ⟨5,0,some k⟩) n c,.slice (some ⟨6,0,some 0⟩) ls.length 1] true 0),some (rowO .mine a),some (rowO .mine ls)]
def aja_(b:Bool):Value:= .iface 140 (.agg ⟨[.bool b]⟩)
def kFd(a:List U8):Nat:=a.length-(fd a).2.1.length
def c0Fd(a:List U8):Nat:=if a.length=0 then 1 else 0
def exFd(l m:List U8):Nat→Kt→Prop:=fun b K=>((fd (l++m)).2.2=2→K (.panic (aja_ true)) FFp (SFd l m (l++m) (kFd (l++m)) (fd (l++m)).2.1.length (c0Fd (l++m)) (fd (l++m)).1))∧((fd (l++m)).2.2=11→K (.panic (aja_ false)) FFp (SFd l m (l++m) (kFd (l++m)) (fd (l++m)).2.1.length (c0Fd (l++m)) (fd (l++m)).1))
theorem apI_(q:Bool)(l m:List U8)(c d:Nat)(β:Bs)(K:AE→List (Option AObj)→Prop):lawE Tryz.prog Z5_ 100 20 β (fun _=>0) (cnOf 2 fun _=>[4,5,6]) (exFd l m) 38 [.agg ⟨[.slice (some ⟨0,0,some 0⟩) l.length c,.bool q]⟩,.slice (some ⟨1,0,some 0⟩) m.length d] (mkS [some (rowO .look l),some (rowO .look m)]) (outK K)=
 (fun(z5:AFr) (z8 z9 z12 z22 z25 z27 z35:Nat) (z15 z17 z26:AObj) (z16:Addr) (z18:List U8×Nat) (z31:Code) (z34:List Value)=>((fun(z3:Int) (z4 z14 z24 z32:Bool) (z6:Nat) (z10 z11 z20 z28 z30:AObj) (z33:List Value)=>((fun(z2:List (Option AObj)) (z13 z23:AObj) (z19:Bool) (z21:List Value) (z29:Int)=>((fun(z0 z1 z7:Prop)=>(br q (need z24 (need (okC 1 [Ta.cell (.fr 1 z8 c fun i=>encL l (0+i))]) (K (.returned (Value.tuple (Array.mk [Value.agg (Array.mk z33),.slice none 0 0]))) [some z11,some z10,some z20,some (.cells z33 true 0),some z15,none,some (.row .mine 1 0 z8 fun i=>encL l (0+i))]))) (br (decide (IntKind.wrap .i64 ((0:Int)+Int.ofNat z8)<(0:Int))) z7 (br z14 z7 (br z14 (K (AE.panicked (Value.iface 9 (.string (ByteArray.mk #[(99:UInt8),(97:UInt8),(110:UInt8),(110:UInt8),(111:UInt8),(116:UInt8),(32:UInt8),(98:UInt8),(101:UInt8),(32:UInt8),(110:UInt8),(101:UInt8),(103:UInt8),(97:UInt8),(116:UInt8),(105:UInt8),(118:UInt8),(101:UInt8)])))) z2) (br (decide (IntKind.wrap .i64 z3>(0:Int))) (need (decide ((0:Int)≤IntKind.wrap .i64 z3)) (need (Nat.ble (Int.toNat z29) 1000000) (need (Nat.ble (0+Int.toNat z29) 1000000) (need z24 (need (Nat.ble z12 1000000) (need z32 (need (Nat.ble z22 1000000) (need (true&&Nat.ble (0+z12) z12) (LoopJ Tryz.prog β (exFd l m) 0 z31 z5 (mkS [some z11,some z10,some z17,some z15,some (.cells [.slice (some ⟨5,0,some 0⟩) z22 (bif Nat.beq (Int.toNat z29) 0 then 1 else 0),.slice none 0 0] true 0),some (.row .mine 1 0 z22 fun j k=>mrgT (Nat.blt j z12) (mrgT (Nat.blt (0+j) 0) (nthT [.sc (.int .u8 (0:Int))] k) (encL l (0+(0+j-0)) k)) (encL m (0+(j-z12)) k))])∧(Prod.snd z18=2→need z4 z1)∧(Prod.snd z18=11→need z4 z0)))))))))) (need z24 (need (Nat.ble z12 1000000) (need z32 (need (Nat.ble z27 1000000) (need z24 (LoopJ Tryz.prog β (exFd l m) 0 z31 z5 (mkS [some z11,some z10,some z17,some z15,some (.cells [.slice (some ⟨5,0,some 0⟩) z27 1,.slice none 0 0] true 0),some (.row .mine 1 0 z27 fun j k=>mrgT (Nat.blt j z8) (encL l (0+(0+j)) k) (encL m (0+(j-List.length l)) k))])∧(Prod.snd z18=2→need z4 z1)∧(Prod.snd z18=11→need z4 z0))))))))))))) (need z19 (K (.returned (Value.tuple (Array.mk [Value.agg (Array.mk z21),.slice (some z16) z9 1]))) [some z11,some z10,some (.cells z21 true 0),some z30,some z13,some z26,some z28,some (.cells [.bool false] true 0),none,some z23])) (need z19 (K (.returned (Value.tuple (Array.mk [Value.agg (Array.mk z34),.slice (some z16) z9 1]))) [some z11,some z10,some (.cells z34 true 0),some z30,some z13,some z26,some z28,some (.cells [.bool true] true 0),none,some z23])) (K (AE.panicked (Value.iface 9 (.string (ByteArray.mk #[(108:UInt8),(101:UInt8),(110:UInt8),(32:UInt8),(111:UInt8),(117:UInt8),(116:UInt8),(32:UInt8),(111:UInt8),(102:UInt8),(32:UInt8),(114:UInt8),(97:UInt8),(110:UInt8),(103:UInt8),(101:UInt8)])))) z2))) [some z11,some z10,some z20,some z17,some z15,some (.cells [.slice (some ⟨0,0,some 0⟩) z8 c,.slice (some ⟨1,0,some 0⟩) z25 d] true 1)] (.cells [.slice (some (Addr.mk 5 0 (some (kFd (l++m))))) z6 z35,.slice (some z16) z9 1] true 0) (.row .mine 1 0 z6 fun i=>encL (l++m) (kFd (l++m)+i)) (okC 1 [Ta.cell (.fr 1 z6 z35 fun i=>encL (l++m) (kFd (l++m)+i))]) [.slice (some ⟨9,0,some 0⟩) z6 z35,.bool false] (IntKind.wrap .i64 z3))) (IntKind.wrap .i64 (IntKind.wrap .i64 ((0:Int)+Int.ofNat z8)+Int.ofNat z25)-(0:Int)) (Nat.ble 0 (kFd (l++m))&&Nat.ble (kFd (l++m)+List.length (Prod.fst z18)) (List.length (l++m))) (decide (IntKind.wrap .i64 (IntKind.wrap .i64 ((0:Int)+Int.ofNat z8)+Int.ofNat z25)<(0:Int))) (true&&Nat.ble z12 z8) (true&&Nat.ble (0+List.length m) z25) (List.length (Prod.fst z18)) (.row .look 1 0 z25 (encL m)) (.row .look 1 0 z8 (encL l)) (.cells [.slice
 (some ⟨0,0,some 0⟩) z8 c,.bool q] true 0) (.row .mine 1 0 z9 (encL (Prod.fst (fd (l++m))))) (.cells [.slice (some z16) z9 1] true 0) [.slice (some z16) z8 c,.bool true])) (mkFD 23 [(4,.pointer (some ⟨2,0,none⟩)),(5,.pointer (some ⟨3,0,none⟩)),(6,.pointer (some ⟨4,0,none⟩))] [ADef.mk (Fn.func 61) [] [.pointer (some ⟨4,0,none⟩),.pointer (some ⟨2,0,none⟩),.pointer (some ⟨3,0,none⟩)]]) l.length (List.length (Prod.fst (fd (l++m)))) (0+List.length l) (0+List.length l+List.length m) m.length (List.length l+List.length m) (c0Fd (l++m)) (.cells [.slice none 0 0] true 0) (.cells [.slice none 0 0,.bool false] true 0) (.row .mine 1 0 (List.length (l++m)) (encL (l++m))) ⟨6,0,some 0⟩ (Prod.snd (fd (l++m))) (a5_ Tryz.prog 38 0) [.slice none 0 0,.bool true]:=by kernel_rfl
theorem akT_(l m a:List U8)(k n c:Nat)(ls:List Ld)(β:Bs)(N:Kt)(ex:Nat→Kt→Prop):T6_ Tryz.prog Z5_ 100 20 β (fun _=>0) (cnOf 2 fun _=>[4,5,6]) ex 38 0 2 lvFd FFd (SFd l m a k n c ls) N=
 (fun(z2 z3 z4 z5 z7:AObj) (z6 z10:Nat) (z8:Td) (z11 z12:Addr)=>((fun(z0:List U8) (z1:List ADef)=>((fun(z9:Int)=>(need (Nat.ble 0 k&&Nat.ble (k+n) a.length) (need (ok1 U8 (fun l x=>List.all l (okA U8)) [Ta.cell z8]) (br (Int.ofNat (tkE z0) !=(0:Int)) (N (AX.panic (Value.iface 140 (Value.agg (Array.mk [.bool (Int.ofNat (tkE z0)==(2:Int))])))) (mkFD 23 [(4,.pointer (some z11)),(5,.pointer (some z12))] z1) (mkS [some z3,some z4,some z2,some z7,some (.cells [.slice (some (Addr.mk 5 0 (some k))) n c,.slice (some ⟨6,0,some 0⟩) z6 1] true 0),some z5,some (.row .mine 1 0 z6 (encL ls))])) (need (Nat.ble (Int.toNat z9) n) (need (true&&Nat.ble (0+List.length (tkL z0)) (List.length (tkL z0))) (need (Nat.ble z10 1000000) (need (true&&Nat.ble (0+List.length ls) z6) (N .normal (mkFD 23 [(4,.pointer (some z11)),(5,.pointer (some z12)),(6,.pointer (some ⟨4,0,none⟩))] z1) (mkS [some z3,some z4,some z2,some z7,some (.cells [.slice (some (Addr.mk 5 0 (some (k+Int.toNat z9)))) (n-Int.toNat z9) (bif Nat.beq n 0 then c else 0),.slice (some ⟨6,0,some 0⟩) z10 1] true 0),some z5,some (.row .mine 1 0 z10 fun j k_1=>mrgT (Nat.blt j z6) (encL ls (0+j) k_1) (selT 1 1 [.fr 1 (List.length (tkL z0)) (tkC z0) fun i=>encL (tkL z0) (0+i)] (j-List.length ls) k_1))])))))))))) (Int.ofNat (tkN z0)))) (a3_ U8 z8) [ADef.mk (Fn.func 61) [] [.pointer (some ⟨4,0,none⟩),.pointer (some z11),.pointer (some z12)]])) (.cells [.slice none 0 0,.bool false] true 0) (.row .look 1 0 l.length (encL l)) (.row .look 1 0 m.length (encL m)) (.row .mine 1 0 a.length (encL a)) (.cells [.slice none 0 0] true 0) ls.length (List.length ls+1) (.fr 1 n c fun i=>encL a (k+i)) ⟨2,0,none⟩ ⟨3,0,none⟩:=by kernel_rfl
end Go.Proofs.YtachglcffimmeaaGreat.Ev
