/-
  annunciatorref16's reader: its numbers, told.
-/
import Derived.Test.YtachglcffimmeaaGreatR30
import Derived.Test.YtachglcffimmeaaGreatR28
set_option linter.unusedVariables false
set_option linter.unusedSimpArgs false
set_option maxRecDepth 1000000
namespace Go.Proofs.YtachglcffimmeaaGreat.Ev
open Go Go.Proofs Go.RowKit
structure RfA where
 off:List U8→Nat→Nat→RdA
 bd:List U8→Nat→Bool
 bad:List U8→Nat→Nat→RdA
 good:List U8→Nat→RdA
abbrev RfD:Type:=List Value→Option RfA
def RfA.at(F:RfA)(L:List U8)(n c:Nat)(q:Bool):RdA:=cond q (F.off L n c) (cond (F.bd L n) (F.bad L n c) (F.good L n))
def rfB(o1:Option AObj)(i n c:Nat):Bool:=rowB U8 (rowN o1) 0 o1&&(rowL U8 (rowN o1) o1).all (okA U8)&&Nat.beq i (rowN o1-n)&&Nat.ble n (rowN o1)&&Nat.ble c 1
def spRf(dec:RfD)(args:List Value)(objs:List (Option AObj)):Option SpT:=match args,objs with
 | .pointer (some ⟨0,0,none⟩)::xs,[some (.cells [.slice (some ⟨1,0,some i⟩) n c,.bool q] true 0),o1]=>match dec xs with
  |some F=>match q with
   |true=>some (.one (rdS (rowL U8 (rowN o1) o1) (F.off (rowL U8 (rowN o1) o1) n c) i n c true (rfB o1 i n c)))
   |false=>some (.br (F.bd (rowL U8 (rowN o1) o1) n) (.one (rdS (rowL U8 (rowN o1) o1) (F.bad (rowL U8 (rowN o1) o1) n c) i n c false (rfB o1 i n c))) (.one (rdS (rowL U8 (rowN o1) o1) (F.good (rowL U8 (rowN o1) o1) n) i n c false (rfB o1 i n c))))
  |none=>none
 |_,_=>none
theorem aew_{dec:RfD}{xs:List Value}{i n c:Nat}{q:Bool}{o1:Option AObj}{F:RfA}(hd:dec xs=some F):(spRf dec (.pointer (some ⟨0,0,none⟩)::xs) [some (.cells [.slice (some ⟨1,0,some i⟩) n c,.bool q] true 0),o1]).map SpT.pick=some (rdS (rowL U8 (rowN o1) o1) (F.at (rowL U8 (rowN o1) o1) n c q) i n c q (rfB o1 i n c)):=by
 unfold spRf
 simp only[hd]
 cases q with
 |true=>rfl
 |false=>
  simp only[Option.map_some,SpT.pick,RfA.at,cond_false]
  cases F.bd (rowL U8 (rowN o1) o1) n<;>rfl
theorem aeN_{P:Program}{g:FuncId}{dec:RfD}
  (h: ∀xs F (L:List U8) (n c:Nat) (q:Bool),dec xs=some F→L.all (okA U8)=true→L.length≤1000000→n≤L.length→c≤1→ ∃(C:Told) (fuel k:Nat) (un:Nat→Nat) (lvs:Nat→List Nat) (ex:Nat→Kt→Prop),a8_ P C∧
   ∀β:Bs,β.X.length=2→ ∀K:AE→List (Option AObj)→Prop,(∀m:List (Option AObj),m[0]? =some (some (rdO (F.at L n c q).i (F.at L n c q).n (F.at L n c q).c (F.at L n c q).q))→K (F.at L n c q).ret m)→
    lawE P C fuel k β un (cnOf 2 lvs) ex g (.pointer (some ⟨0,0,none⟩)::xs) (mkS (viF L n c q)) (outC 2 K))
  (hr: ∀xs F L n c q,dec xs=some F→bkE (lkAt 2 []) (F.at L n c q).ret=(F.at L n c q).ret):q2_ aau_ P g (pickS (spRf dec)):=by
 intro args objs s hs hb
 unfold pickS at hs
 rcases hsp:spRf dec args objs with _|sp
 ·rw[hsp]at hs;cases hs
 have hsh: ∃xs i n c q o1 F,args= .pointer (some ⟨0,0,none⟩)::xs∧objs=[some (.cells [.slice (some ⟨1,0,some i⟩) n c,.bool q] true 0),o1]∧dec xs=some F:=by
  unfold spRf at hsp
  split at hsp
  ·rename_i xs i n c q o1
   split at hsp
   ·rename_i F hd
    exact⟨xs,i,n,c,q,o1,F,rfl,rfl,hd⟩
   ·cases hsp
  ·cases hsp
 obtain⟨xs,i,n,c,q,o1,F,rfl,rfl,hd⟩:=hsh
 rw[aew_ hd]at hs
 simp only[Option.some.injEq]at hs
 subst hs
 have hb':=hb
 simp only[rdS,rfB,Bool.and_eq_true]at hb'
 obtain⟨⟨⟨⟨b1,b2⟩,b3⟩,b3'⟩,b4⟩:=hb'
 have b3:=Nat.eq_of_beq_eq_true b3
 have b3':=Nat.le_of_ble_eq_true b3'
 have b4:=Nat.le_of_ble_eq_true b4
 obtain⟨l1,m1,c1,v1⟩:=N3_ b1
 refine⟨⟨rfl,fun j o h=> ?_⟩,?_⟩
 ·match j,h with
  |0,h=>cases h;exact⟨_,rfl,fun h=>h,fun _ _ _ h=>h⟩
  |1,h=>cases h;obtain⟨q,rfl,hq⟩:=v1;exact⟨q,rfl,(fun h=>by cases h),hq⟩
  |_+2,h=>simp[rdS,viR]at h
 generalize rowL U8 (rowN o1) o1=L at*
 rw[←l1]at b3 b3'
 subst b3
 obtain⟨C,fuel,kk,un,lvs,ex,hC,hl⟩:=h xs F L n c q hd b2 (by omega) b3' b4
 refine⟨C,fuel,kk,un,lvs,ex,hC,fun β hβ=> ?_⟩
 refine hl β hβ _ fun m ho=> ?_
 have hlt:0<m.length:=(List.getElem?_eq_some_iff.1 ho).1
 refine⟨m.set 0 (some (rdO (F.at L n c q).i (F.at L n c q).n (F.at L n c q).c (F.at L n c q).q)),⟨by simp,fun j o2 e=> ?_⟩,[],rfl,List.nodup_nil,by simp,(hr xs F L n c q hd).symm,fun j o h=> ?_,fun j x o h=>by simp[rdS]at h⟩
 ·by_cases hj:j=0
  ·subst hj
   rw[List.getElem?_set_self hlt]at e
   cases e
   exact⟨_,ho,rfl,fun _ _ _ h=>h⟩
  ·rw[List.getElem?_set_ne (Ne.symm hj)]at e
   exact⟨o2,e,rfl,fun _ _ _ h=>h⟩
 ·match j,h with
  |0,h=>cases h;rw[b5_,List.getElem?_set_self hlt];rfl
  |1,h=>cases h
  |j+2,h=>simp[rdS]at h
def nfF(k:Nat):RfA:=⟨fun L n c=>⟨true,.returned (.int .u64 0),L.length-n,n,c,true⟩,fun _ n=>Nat.blt n k,fun L n c=>⟨true,.returned (.int .u64 0),L.length-n,n,c,true⟩,fun L n=>⟨true,.returned (.int .u64 (beN L (L.length-n) k:Nat)),L.length-(n-k),n-k,0,false⟩⟩
def deF:RfD:=fun xs=>match xs with
 |[.int .i64 k]=>cond (k==1) (some (nfF 1)) (cond (k==2) (some (nfF 2)) (cond (k==8) (some (nfF 8)) none))
 |_=>none
theorem R3_{b:Nat}(h:b<256):IntKind.wrap .u64 ((0:Int)+IntKind.wrap .u64 (b:Int))=((0*256+b:Nat):Int):=by
 rw[i7_ (by omega)]
 have:(0:Int)+(b:Int)=((0*256+b:Nat):Int):=by omega
 rw[this,i7_ (by omega)]
theorem h2_{a b:Nat}(ha:a<72057594037927936)(h:b<256):IntKind.wrap .u64 (IntKind.wrap .u64 ((a:Int)*256)+IntKind.wrap .u64 (b:Int))=((a*256+b:Nat):Int):=by
 have e1:(a:Int)*256=((a*256:Nat):Int):=by omega
 rw[e1,i7_ (by omega),i7_ (show b<_ by omega)]
 have:((a*256:Nat):Int)+(b:Int)=((a*256+b:Nat):Int):=by omega
 rw[this,i7_ (by omega)]
def usB(a:Int)(b:Nat):Int:=IntKind.wrap .u64 (IntKind.wrap .u64 (a*256)+IntKind.wrap .u64 (b:Int))
theorem byUa{L:List U8}(h:L.all (okA U8)=true)(i:Nat):U8.v (L.getD i Enc.dflt)=((byA L i:Nat):Int):=by
 have h0:0≤(L.getD i Enc.dflt).v:=by
  rcases Nat.lt_or_ge i L.length with hj|hj
  ·exact(v8_ h hj).1
  ·have:L.getD i Enc.dflt=(Enc.dflt:U8):=by simp[List.getD,List.getElem?_eq_none hj]
   rw[this];exact Int.le_refl _
 unfold byA
 omega
theorem Y6_{L:List U8}(h:L.all (okA U8)=true)(i:Nat): ∀k,beN L i k<256^k
 |0=>by show 0<1;omega
 |k+1=>by
  have h1:=Y6_ h i k
  have h2:=(b64 h (i+k)).2
  show beN L i k*256+byA L (i+k)<256^k*256
  omega
theorem agj_{k:Nat}{L:List U8}{n c:Nat}{q:Bool}{K:AE→List (Option AObj)→Prop}{x:Int}{m1 m2:List (Option AObj)}(hk:0<k)(hx:x=(beN L (L.length-n) k:Nat))(hn:n≤L.length)
  (h1:m1[0]? =some (some (rdO (L.length-n) n c true))) (h2:m2[0]? =some (some (rdO (L.length-n) n c q)))
  (hK: ∀m,m[0]? =some (some (rdO ((nfF k).at L n c q).i ((nfF k).at L n c q).n ((nfF k).at L n c q).c ((nfF k).at L n c q).q))→K ((nfF k).at L n c q).ret m)
  {N:Prop} (hN:k≤n→(∀m:List (Option AObj),m[0]? =some (some (rdO (L.length-n+k) (n-k) (bif Nat.beq n 0 then c else 0) q))→K (.returned (.int .u64 x)) m)→N):br (decide ((k:Int)>Int.ofNat n)) (K (.returned (.int .u64 0)) m1) (br q (K (.returned (.int .u64 0)) m2) N):=by
 unfold RfA.at nfF at hK
 refine a0_ (fun hd=> ?_) (fun hd=>a0_ (fun hq=> ?_) (fun hq=> ?_))
 ·have hd:=of_decide_eq_true hd
  simp only[Int.ofNat_eq_natCast]at hd
  have e:Nat.blt n k=true:=by simp;omega
  simp only[e,cond_true]at hK
  cases q with
  |true=>exact hK _ h1
  |false=>exact hK _ h1
 ·subst hq
  exact hK _ h2
 ·have hd:=of_decide_eq_false hd
  simp only[Int.ofNat_eq_natCast]at hd
  have e:Nat.blt n k=false:=by rw[Bool.eq_false_iff];intro h;have:=Nat.le_of_ble_eq_true h;omega
  subst hq
  simp only[e,cond_false]at hK
  refine hN (by omega) fun m3 h3=> ?_
  rw[hx]
  refine hK _ ?_
  rw[h3,b8_ (show n≠0 by omega),show L.length-n+k=L.length-(n-k)by omega];rfl
theorem fbOk{N n j k:Nat}(h:k≤n)(hn:n≤N)(hj:j<k):(Nat.ble 0 (N-n+j)&&Nat.blt (N-n+j) N)=true:=by simp;omega
theorem afv_:q2_ aau_ Tryz.prog 31 (pickS (spRf deF)):=by
 refine aeN_ (fun xs F L n c q hd hL hl hn hc=> ?_) (fun xs F L n c q hd=> ?_)
 ·unfold deF at hd
  split at hd
  ·rename_i k
   have hb:=fun j=>(b64 hL j).2
   have hv:=byUa hL
   have bl:=fun k=>Y6_ hL (L.length-n) k
   cases h1:(k==1)with
   |true=>
    rw[h1]at hd
    have hk:=eq_of_beq h1
    subst hk
    cases hd
    refine⟨y5_,100,20,fun _=>9,fun _=>[],fun _ _=>False,t4_,fun β _ K hK=>(anK_ L n c q β K).mpr ?_⟩
    simp only[Nat.add_zero,hv,R3_ (hb _)]
    refine agj_ (k:=1) (by omega) rfl hn rfl rfl hK fun hkn hK=> ?_
    have e:=fun j=>fbOk (j:=j) hkn hn
    exact nd_ (by simpa using hkn) (nd_ (by simpa using hkn) (nd_ (e 0 (by omega)) (hK _ rfl)))
   |false=>
    rw[h1]at hd
    cases h2:(k==2)with
    |true=>
     rw[h2]at hd
     have hk:=eq_of_beq h2
     subst hk
     cases hd
     refine⟨y5_,100,20,fun _=>9,fun _=>[],fun _ _=>False,t4_,fun β _ K hK=>(anJ_ L n c q β K).mpr ?_⟩
     have c1:beN L (L.length-n) 1<72057594037927936:=Nat.lt_of_lt_of_le (bl 1) (by decide)
     simp only[Nat.add_zero,hv,R3_ (hb _)]
     have e1:=h2_ c1 (hb (L.length-n+1))
     refine agj_ (k:=2) (by omega) e1 hn rfl rfl hK fun hkn hK=> ?_
     have e:=fun j=>fbOk (j:=j) hkn hn
     exact nd_ (by simpa using hkn) (nd_ (by simpa using hkn) (nd_ (e 0 (by omega)) (nd_ (e 1 (by omega)) (hK _ rfl))))
    |false=>
     rw[h2]at hd
     cases h8:(k==8)with
     |true=>
      rw[h8]at hd
      have hk:=eq_of_beq h8
      subst hk
      cases hd
      refine⟨y5_,100,20,fun _=>9,fun _=>[],fun _ _=>False,t4_,fun β _ K hK=>(anI_ L n c q β K).mpr ?_⟩
      have cc: ∀k,k≤7→beN L (L.length-n) k<72057594037927936:=fun k hk=>Nat.lt_of_lt_of_le (bl k) (Nat.pow_le_pow_right (by omega) hk)
      simp only[Nat.add_zero,hv,R3_ (hb _)]
      have hx:usB (usB (usB (usB (usB (usB (usB (((0*256+byA L (L.length-n):Nat):Int)) (byA L (L.length-n+1))) (byA L (L.length-n+2))) (byA L (L.length-n+3))) (byA L (L.length-n+4))) (byA L (L.length-n+5))) (byA L (L.length-n+6))) (byA L (L.length-n+7))=((beN L (L.length-n) 8:Nat):Int):=by
       have e1:usB ((beN L (L.length-n) 1:Nat):Int) (byA L (L.length-n+1))=((beN L (L.length-n) 2:Nat):Int):=h2_ (cc 1 (by omega)) (hb (L.length-n+1))
       have e2:usB ((beN L (L.length-n) 2:Nat):Int) (byA L (L.length-n+2))=((beN L (L.length-n) 3:Nat):Int):=h2_ (cc 2 (by omega)) (hb (L.length-n+2))
       have e3:usB ((beN L (L.length-n) 3:Nat):Int) (byA L (L.length-n+3))=((beN L (L.length-n) 4:Nat):Int):=h2_ (cc 3 (by omega)) (hb (L.length-n+3))
       have e4:usB ((beN L (L.length-n) 4:Nat):Int) (byA L (L.length-n+4))=((beN L (L.length-n) 5:Nat):Int):=h2_ (cc 4 (by omega)) (hb (L.length-n+4))
       have e5:usB ((beN L (L.length-n) 5:Nat):Int) (byA L (L.length-n+5))=((beN L (L.length-n) 6:Nat):Int):=h2_ (cc 5 (by omega)) (hb (L.length-n+5))
       have e6:usB ((beN L (L.length-n) 6:Nat):Int) (byA L (L.length-n+6))=((beN L (L.length-n) 7:Nat):Int):=h2_ (cc 6 (by omega)) (hb (L.length-n+6))
       have e7:usB ((beN L (L.length-n) 7:Nat):Int) (byA L (L.length-n+7))=((beN L (L.length-n) 8:Nat):Int):=h2_ (cc 7 (by omega)) (hb (L.length-n+7))
       show usB (usB (usB (usB (usB (usB (usB (((beN L (L.length-n) 1:Nat):Int)) (byA L (L.length-n+1))) (byA L (L.length-n+2))) (byA L (L.length-n+3))) (byA L (L.length-n+4))) (byA L (L.length-n+5))) (byA L (L.length-n+6))) (byA L (L.length-n+7))=_
       rw[e1,e2,e3,e4,e5,e6,e7]
      refine agj_ (k:=8) (by omega) hx hn rfl rfl hK fun hkn hK=> ?_
      have e:=fun j=>fbOk (j:=j) hkn hn
      exact nd_ (by simpa using hkn) (nd_ (by simpa using hkn) (nd_ (e 0 (by omega)) (nd_ (e 1 (by omega)) (nd_ (e 2 (by omega)) (nd_ (e 3 (by omega)) (nd_ (e 4 (by omega)) (nd_ (e 5 (by omega)) (nd_ (e 6 (by omega)) (nd_ (e 7 (by omega)) (hK _ rfl))))))))))
     |false=>rw[h8]at hd;cases hd
  ·cases hd
 ·unfold deF at hd
  split at hd
  ·rename_i k
   have hk: ∃kk,F=nfF kk:=by
    revert hd
    cases(k==1)<;>cases(k==2)<;>cases(k==8)<;>intro hd<;>first|exact⟨_,(Option.some.inj hd).symm⟩|cases hd
   obtain⟨kk,rfl⟩:=hk
   cases q with
   |true=>rfl
   |false=>
    show bkE _ (cond (Nat.blt n kk) ((nfF kk).bad L n c) ((nfF kk).good L n)).ret=(cond (Nat.blt n kk) ((nfF kk).bad L n c) ((nfF kk).good L n)).ret
    cases Nat.blt n kk<;>rfl
  ·cases hd
def R8_:Told:=y5_.effT 31 (spRf deF)
theorem R7_:a8_ Tryz.prog R8_:=Told.effT_okG M8_ follows t4_ afv_
theorem any_(k i:Int)(f:Nat)(β:Bs)(K:AE→List (Option AObj)→Prop):lawE Tryz.prog R8_ 100 20 β (fun _=>8) (cnOf 0 fun _=>[]) (fun _ _=>False) 79 [.slice none 0 0,.agg ⟨[.int .i64 k,.int .i64 i,.float .f64 f]⟩] (mkS []) (outC 0 K)=
 (fun(z8:Value) (z9 z20:Int) (z10:Option Addr)=>((fun(z3:List Td) (z13 z16:Int) (z19:AE)=>((fun(z1 z2:Int) (z4:List Td)=>((fun(z7 z15:Int) (z12:List Td)=>((fun(z6 z18:Int) (z11:List Td)=>((fun(z5 z14:Int)=>((fun(z17:Int)=>((fun(z0:Prop)=>(br (k==(5:Int)) (K z19 [some (.row .mine 1 0 8 fun j=>putT 0 0 [.sc (.int .u8 (IntKind.wrap .u8 (Int.tmod (IntKind.wrap .u64 (Int.tdiv z14 (256:Int))) (256:Int))))] (putT 1 0 [.sc (.int .u8 (IntKind.wrap .u8 (Int.tmod z14 (256:Int))))] (putT 2 0 [.sc (.int .u8 (IntKind.wrap .u8 (Int.tmod z6 (256:Int))))] (putT 3 0 [.sc (.int .u8 (IntKind.wrap .u8 (Int.tmod z15 (256:Int))))] (putT 4 0 [.sc (.int .u8 (IntKind.wrap .u8 (Int.tmod z2 (256:Int))))] (putT 5 0 [.sc (.int .u8 (IntKind.wrap .u8 (Int.tmod z16 (256:Int))))] (putT 6 0 [.sc (.int .u8 (IntKind.wrap .u8 (Int.tmod z9 (256:Int))))] (putT 7 0 [.sc (.int .u8 (IntKind.wrap .u8 (Int.tmod (Int.ofNat (bitsN f)) (256:Int))))] fun x=>nthT [.sc z8]))))))) (0+j))]) (need (decide ((0:Int)≤k)) (br (Nat.beq (Int.toNat k) 0) (K (.returned (.slice z10 0 1)) [some (.row .mine 1 0 0 fun j=>nthT [.sc z8])]) (br (Nat.beq (Int.toNat k) 1) (K (.returned (.slice z10 1 1)) [some (.row .mine 1 0 1 fun j=>putT 0 0 z3 (fun x=>nthT [.sc z8]) (0+j))]) (br (Nat.beq (Int.toNat k) 2) (K (.returned (.slice z10 2 1)) [some (.row .mine 1 0 2 fun j=>putT 0 0 z4 (putT 1 0 z3 fun x=>nthT [.sc z8]) (0+j))]) (br (Nat.beq (Int.toNat k) 3) (K (.returned (.slice z10 4 1)) [some (.row .mine 1 0 4 fun j=>putT 0 0 z11 (putT 1 0 z12 (putT 2 0 z4 (putT 3 0 z3 fun x=>nthT [.sc z8]))) (0+j))]) (br (Nat.beq (Int.toNat k) 4) z0 (need (Nat.beq (Int.toNat k) 5) z0))))))))) (K z19 [some (.row .mine 1 0 8 fun j=>putT 0 0 [.sc (.int .u8 (IntKind.wrap .u8 (Int.tmod (IntKind.wrap .u64 (Int.tdiv z17 (256:Int))) (256:Int))))] (putT 1 0 [.sc (.int .u8 (IntKind.wrap .u8 (Int.tmod z17 (256:Int))))] (putT 2 0 [.sc (.int .u8 (IntKind.wrap .u8 (Int.tmod z5 (256:Int))))] (putT 3 0 [.sc (.int .u8 (IntKind.wrap .u8 (Int.tmod z18 (256:Int))))] (putT 4 0 z11 (putT 5 0 z12 (putT 6 0 z4 (putT 7 0 z3 fun x=>nthT [.sc z8]))))))) (0+j))]))) (IntKind.wrap .u64 (Int.tdiv z5 (256:Int))))) (IntKind.wrap .u64 (Int.tdiv z18 (256:Int))) (IntKind.wrap .u64 (Int.tdiv z6 (256:Int))))) (IntKind.wrap .u64 (Int.tdiv z15 (256:Int))) (IntKind.wrap .u64 (Int.tdiv z7 (256:Int))) [.sc (.int .u8 (IntKind.wrap .u8 (Int.tmod z7 (256:Int))))])) (IntKind.wrap .u64 (Int.tdiv z1 (256:Int))) (IntKind.wrap .u64 (Int.tdiv z2 (256:Int))) [.sc (.int .u8 (IntKind.wrap .u8 (Int.tmod z1 (256:Int))))])) (IntKind.wrap .u64 (Int.tdiv z13 (256:Int))) (IntKind.wrap .u64 (Int.tdiv z16 (256:Int))) [.sc (.int .u8 (IntKind.wrap .u8 (Int.tmod z13 (256:Int))))])) [.sc (.int .u8 (IntKind.wrap .u8 (Int.tmod z20 (256:Int))))] (IntKind.wrap .u64 (Int.tdiv z20 (256:Int))) (IntKind.wrap .u64 (Int.tdiv z9 (256:Int))) (.returned (.slice z10 8 1)))) (.int .u8 (0:Int)) (IntKind.wrap .u64 (Int.tdiv (Int.ofNat (bitsN f)) (256:Int))) (IntKind.wrap .u64 i) (some ⟨0,0,some 0⟩):=by kernel_rfl
structure NilS where
instance:ArgE NilS where
 okA t:=match t with
  | .cell (.fr _ 0 1 _)=>true
  |_=>false
 get _:=⟨⟩
 ta _:= .cell (.sc (.slice none 0 0))
 good _:=True
 law t h:=by
  split at h
  ·refine⟨trivial,fun w F y hy=> ?_⟩
   rcases hy with⟨_,_,rfl⟩|⟨_,h2,_⟩|⟨h0,_⟩
   ·exact VR.refl (ρ:=I3_) 2 rfl
   ·cases h2
   ·exact absurd h0 (Nat.lt_irrefl 0)
  ·cases h
def rwL(v:Vl):List U8:=cond (v.k==5) (hi8 (Int.ofNat (bitsN v.f))) (cond (v.k==1) (hi1 (IntKind.wrap .u64 v.i)) (cond (v.k==2) (hi2 (IntKind.wrap .u64 v.i)) (cond (v.k==3) (hi4 (IntKind.wrap .u64 v.i)) (hi8 (IntKind.wrap .u64 v.i)))))
theorem abE_(v:Vl):pvL v=⟨IntKind.wrap .u8 v.k⟩::rwL v:=rfl
theorem u1_{L:List U8}{m:List (Option AObj)}{n c0:Nat}{e:Nat→Nat→Td}(h0:0<n)(hR:RowU e n L)(hk:m[0]? =some (some (.row .mine 1 0 n e))):
  HdP (∃m2,a6_ m m2∧ansE (.ret (ansW L 0)) (.returned (.slice (some ⟨0,0,some 0⟩) n c0)) (mkS m2)):=by
 have hkl:=(List.getElem?_eq_some_iff.1 hk).1
 exact⟨_,hR.leaf hk,[0],U7_ hkl hR.len (fun h=>by omega),by simp⟩
theorem aib_:c5_ Tryz.prog 79 (okA2 NilS (Sc Vl) fun _ v=>pvP v.x) (t0_ NilS (Sc Vl) fun _ v=> .ret (ansW (rwL v.x) 0)):=by
 refine D4_ follows fun _ v _ _ hp=>LawC.of R8_ 100 20 (fun _=>8) (fun _=>[]) (fun _ _=>False) R7_ fun β hβ=> ?_
 obtain⟨⟨k,i,f⟩⟩:=v
 show HdP (lawE Tryz.prog R8_ 100 20 β (fun _=>8) (cnOf 0 fun _=>[]) (fun _ _=>False) 79 [.slice none 0 0,.agg ⟨[.int .i64 k,.int .i64 i,.float .f64 f]⟩] (mkS []) (outC 0 fun r q=> ∃m2,a6_ q m2∧ansE (.ret (ansW (rwL ⟨k,i,f⟩) 0)) r (mkS m2)))
 have hp:(decide (1≤k)&&decide (k≤5))=true:=hp
 simp only[Bool.and_eq_true,decide_eq_true_eq]at hp
 obtain⟨p1,p2⟩:=hp
 refine⟨?_⟩
 rw[any_]
 simp only[Nat.zero_add]
 refine a0_ (fun h5=> ?_) (fun h5=>nd_ (by simpa using(show(0:Int)≤k by omega)) ?_)
 ·refine(u1_ (by omega) ((T7_ (Int.ofNat (bitsN f))).to rfl ?_) rfl).1
  show _=cond (k==5) _ _
  rw[h5];rfl
 ·have hk5:k≠5:=by simpa using h5
  refine a0_ (fun h=> ?_) (fun h0=>a0_ (fun h=> ?_) (fun h1=>a0_ (fun h=> ?_) (fun h2=>a0_ (fun h=> ?_) (fun h3=>a0_ (fun h=> ?_) (fun h4=> ?_)))))
  ·have:=Nat.eq_of_beq_eq_true h;omega
  ·have hk:k=1:=by have:=Nat.eq_of_beq_eq_true h;omega
   subst hk
   exact(u1_ (by omega) ((aol_ (IntKind.wrap .u64 i)).to rfl rfl) rfl).1
  ·have hk:k=2:=by have:=Nat.eq_of_beq_eq_true h;omega
   subst hk
   exact(u1_ (by omega) ((t9_ (IntKind.wrap .u64 i)).to rfl rfl) rfl).1
  ·have hk:k=3:=by have:=Nat.eq_of_beq_eq_true h;omega
   subst hk
   exact(u1_ (by omega) ((aok_ (IntKind.wrap .u64 i)).to rfl rfl) rfl).1
  ·have hk:k=4:=by have:=Nat.eq_of_beq_eq_true h;omega
   subst hk
   exact(u1_ (by omega) ((T7_ (IntKind.wrap .u64 i)).to rfl rfl) rfl).1
  ·have n0:=Nat.ne_of_beq_eq_false h0
   have n1:=Nat.ne_of_beq_eq_false h1
   have n2:=Nat.ne_of_beq_eq_false h2
   have n3:=Nat.ne_of_beq_eq_false h3
   have n4:=Nat.ne_of_beq_eq_false h4
   omega
def d7_:Told:=R8_.tree 79 (okA2 NilS (Sc Vl) fun _ v=>pvP v.x) (t0_ NilS (Sc Vl) fun _ v=> .ret (ansW (rwL v.x) 0))
theorem R6_:a8_ Tryz.prog d7_:=Told.tree_ok R7_ aib_
theorem ant_(x0:Int)(c:Nat)(β:Bs)(K:AE→List (Option AObj)→Prop):lawE Tryz.prog d7_ 100 20 β (fun _=>20) (cnOf 1 fun _=>[]) (fun _ _=>False) 55 [.int .i64 1,.slice (some ⟨0,0,some 0⟩) 1 c] (mkS [some (rowO .look ([⟨x0⟩]:List U8))]) (outC 1 K)=
 (fun(z0:Int)=>(K (.returned (Value.tuple (Array.mk [Value.agg (Array.mk [.int .i64 (1:Int),.int .i64 z0,.float .f64 0]),.bool ([UInt8.ofBitVec (BitVec.ofNat 8 (Int.toNat (IntKind.wrap .u8 (Int.tmod (IntKind.wrap .u64 z0) (256:Int)))))]==[UInt8.ofBitVec (BitVec.ofNat 8 (Int.toNat x0))])]))) [some (.row .look 1 0 1 (encL [U8.mk x0]))])) (wrF (1:Int) (IntKind.wrap .i64 (IntKind.wrap .u64 ((0:Int)+IntKind.wrap .u64 x0)))):=by kernel_rfl
theorem ans_(x0 x1:Int)(c:Nat)(β:Bs)(K:AE→List (Option AObj)→Prop):lawE Tryz.prog d7_ 100 20 β (fun _=>20) (cnOf 1 fun _=>[]) (fun _ _=>False) 55 [.int .i64 2,.slice (some ⟨0,0,some 0⟩) 2 c] (mkS [some (rowO .look ([⟨x0⟩,⟨x1⟩]:List U8))]) (outC 1 K)=
 (fun(z0:Int)=>((fun(z1:Int)=>(K (.returned (Value.tuple (Array.mk [Value.agg (Array.mk [.int .i64 (2:Int),.int .i64 z0,.float .f64 0]),.bool ([UInt8.ofBitVec (BitVec.ofNat 8 (Int.toNat (IntKind.wrap .u8 (Int.tmod (dU z1) (256:Int))))),UInt8.ofBitVec (BitVec.ofNat 8 (Int.toNat (IntKind.wrap .u8 (Int.tmod z1 (256:Int)))))]==[UInt8.ofBitVec (BitVec.ofNat 8 (Int.toNat x0)),UInt8.ofBitVec (BitVec.ofNat 8 (Int.toNat x1))])]))) [some (.row .look 1 0 2 (encL [U8.mk x0,U8.mk x1]))])) (IntKind.wrap .u64 z0))) (wrF (2:Int) (IntKind.wrap .i64 (IntKind.wrap .u64 (IntKind.wrap .u64 (IntKind.wrap .u64 ((0:Int)+IntKind.wrap .u64 x0)*(256:Int))+IntKind.wrap .u64 x1)))):=by kernel_rfl
theorem anr_(x0 x1 x2 x3:Int)(c:Nat)(β:Bs)(K:AE→List (Option AObj)→Prop):lawE Tryz.prog d7_ 100 20 β (fun _=>20) (cnOf 1 fun _=>[]) (fun _ _=>False) 55 [.int .i64 3,.slice (some ⟨0,0,some 0⟩) 4 c] (mkS [some (rowO .look ([⟨x0⟩,⟨x1⟩,⟨x2⟩,⟨x3⟩]:List U8))]) (outC 1 K)=
 (fun(z0:Int)=>((fun(z1:Int)=>(K (.returned (Value.tuple (Array.mk [Value.agg (Array.mk [.int .i64 (3:Int),.int .i64 z0,.float .f64 0]),.bool ([UInt8.ofBitVec (BitVec.ofNat 8 (Int.toNat (IntKind.wrap .u8 (Int.tmod (dU (dU (dU z1))) (256:Int))))),UInt8.ofBitVec (BitVec.ofNat 8 (Int.toNat (IntKind.wrap .u8 (Int.tmod (dU (dU z1)) (256:Int))))),UInt8.ofBitVec (BitVec.ofNat 8 (Int.toNat (IntKind.wrap .u8 (Int.tmod (dU z1) (256:Int))))),UInt8.ofBitVec (BitVec.ofNat 8 (Int.toNat (IntKind.wrap .u8 (Int.tmod z1 (256:Int)))))]==[UInt8.ofBitVec (BitVec.ofNat 8 (Int.toNat x0)),UInt8.ofBitVec (BitVec.ofNat 8 (Int.toNat x1)),UInt8.ofBitVec (BitVec.ofNat 8 (Int.toNat x2)),UInt8.ofBitVec (BitVec.ofNat 8 (Int.toNat x3))])]))) [some (.row .look 1 0 4 (encL [U8.mk x0,U8.mk x1,U8.mk x2,U8.mk x3]))])) (IntKind.wrap .u64 z0))) (wrF (3:Int) (IntKind.wrap .i64 (IntKind.wrap .u64 (IntKind.wrap .u64 (IntKind.wrap .u64 (IntKind.wrap .u64 (IntKind.wrap .u64 (IntKind.wrap .u64 (IntKind.wrap .u64 ((0:Int)+IntKind.wrap .u64 x0)*(256:Int))+IntKind.wrap .u64 x1)*(256:Int))+IntKind.wrap .u64 x2)*(256:Int))+IntKind.wrap .u64 x3)))):=by kernel_rfl
theorem anq_(x0 x1 x2 x3 x4 x5 x6 x7:Int)(c:Nat)(β:Bs)(K:AE→List (Option AObj)→Prop):lawE Tryz.prog d7_ 100 20 β (fun _=>20) (cnOf 1 fun _=>[]) (fun _ _=>False) 55 [.int .i64 4,.slice (some ⟨0,0,some 0⟩) 8 c] (mkS [some (rowO .look ([⟨x0⟩,⟨x1⟩,⟨x2⟩,⟨x3⟩,⟨x4⟩,⟨x5⟩,⟨x6⟩,⟨x7⟩]:List U8))]) (outC 1 K)=
 (fun(z0:Int)=>((fun(z3:Int)=>((fun(z1:Int)=>((fun(z2:Int)=>(K (.returned (Value.tuple (Array.mk [Value.agg (Array.mk [.int .i64 (4:Int),.int .i64 z0,.float .f64 0]),.bool ([UInt8.ofBitVec (BitVec.ofNat 8 (Int.toNat (IntKind.wrap .u8 (Int.tmod (dU (dU (dU z2))) (256:Int))))),UInt8.ofBitVec (BitVec.ofNat 8 (Int.toNat (IntKind.wrap .u8 (Int.tmod (dU (dU z2)) (256:Int))))),UInt8.ofBitVec (BitVec.ofNat 8 (Int.toNat (IntKind.wrap .u8 (Int.tmod (dU z2) (256:Int))))),UInt8.ofBitVec (BitVec.ofNat 8 (Int.toNat (IntKind.wrap .u8 (Int.tmod z2 (256:Int))))),UInt8.ofBitVec (BitVec.ofNat 8 (Int.toNat (IntKind.wrap .u8 (Int.tmod (dU (dU z1)) (256:Int))))),UInt8.ofBitVec (BitVec.ofNat 8 (Int.toNat (IntKind.wrap .u8 (Int.tmod (dU z1) (256:Int))))),UInt8.ofBitVec (BitVec.ofNat 8 (Int.toNat (IntKind.wrap .u8 (Int.tmod z1 (256:Int))))),UInt8.ofBitVec (BitVec.ofNat 8 (Int.toNat (IntKind.wrap .u8 (Int.tmod z3 (256:Int)))))]==[UInt8.ofBitVec (BitVec.ofNat 8 (Int.toNat x0)),UInt8.ofBitVec (BitVec.ofNat 8 (Int.toNat x1)),UInt8.ofBitVec (BitVec.ofNat 8 (Int.toNat x2)),UInt8.ofBitVec (BitVec.ofNat 8 (Int.toNat x3)),UInt8.ofBitVec (BitVec.ofNat 8 (Int.toNat x4)),UInt8.ofBitVec (BitVec.ofNat 8 (Int.toNat x5)),UInt8.ofBitVec (BitVec.ofNat 8 (Int.toNat x6)),UInt8.ofBitVec (BitVec.ofNat 8 (Int.toNat x7))])]))) [some (.row .look 1 0 8 (encL [U8.mk x0,U8.mk x1,U8.mk x2,U8.mk x3,U8.mk x4,U8.mk x5,U8.mk x6,U8.mk x7]))])) (dU (dU (dU z1))))) (dU z3))) (IntKind.wrap .u64 z0))) (wrF (4:Int) (IntKind.wrap .i64 (IntKind.wrap .u64 (IntKind.wrap .u64 (IntKind.wrap .u64 (IntKind.wrap .u64 (IntKind.wrap .u64 (IntKind.wrap .u64 (IntKind.wrap .u64 (IntKind.wrap .u64 (IntKind.wrap .u64 (IntKind.wrap .u64 (IntKind.wrap .u64 (IntKind.wrap .u64 (IntKind.wrap .u64 (IntKind.wrap .u64 (IntKind.wrap .u64 ((0:Int)+IntKind.wrap .u64 x0)*(256:Int))+IntKind.wrap .u64 x1)*(256:Int))+IntKind.wrap .u64 x2)*(256:Int))+IntKind.wrap .u64 x3)*(256:Int))+IntKind.wrap .u64 x4)*(256:Int))+IntKind.wrap .u64 x5)*(256:Int))+IntKind.wrap .u64 x6)*(256:Int))+IntKind.wrap .u64 x7)))):=by kernel_rfl
theorem anp_(x0 x1 x2 x3 x4 x5 x6 x7:Int)(c:Nat)(β:Bs)(K:AE→List (Option AObj)→Prop):lawE Tryz.prog d7_ 100 20 β (fun _=>20) (cnOf 1 fun _=>[]) (fun _ _=>False) 55 [.int .i64 5,.slice (some ⟨0,0,some 0⟩) 8 c] (mkS [some (rowO .look ([⟨x0⟩,⟨x1⟩,⟨x2⟩,⟨x3⟩,⟨x4⟩,⟨x5⟩,⟨x6⟩,⟨x7⟩]:List U8))]) (outC 1 K)=
 (fun(z0:Nat)=>((fun(z2:Int)=>((fun(z1:Int)=>((fun(z3:Int)=>(K (.returned (Value.tuple (Array.mk [Value.agg (Array.mk [.int .i64 (5:Int),.int .i64 (0:Int),.float .f64 z0]),.bool ([UInt8.ofBitVec (BitVec.ofNat 8 (Int.toNat (IntKind.wrap .u8 (Int.tmod (dU (dU z3)) (256:Int))))),UInt8.ofBitVec (BitVec.ofNat 8 (Int.toNat (IntKind.wrap .u8 (Int.tmod (dU z3) (256:Int))))),UInt8.ofBitVec (BitVec.ofNat 8 (Int.toNat (IntKind.wrap .u8 (Int.tmod z3 (256:Int))))),UInt8.ofBitVec (BitVec.ofNat 8 (Int.toNat (IntKind.wrap .u8 (Int.tmod (dU (dU z1)) (256:Int))))),UInt8.ofBitVec (BitVec.ofNat 8 (Int.toNat (IntKind.wrap .u8 (Int.tmod (dU z1) (256:Int))))),UInt8.ofBitVec (BitVec.ofNat 8 (Int.toNat (IntKind.wrap .u8 (Int.tmod z1 (256:Int))))),UInt8.ofBitVec (BitVec.ofNat 8 (Int.toNat (IntKind.wrap .u8 (Int.tmod (dU z2) (256:Int))))),UInt8.ofBitVec (BitVec.ofNat 8 (Int.toNat (IntKind.wrap .u8 (Int.tmod z2 (256:Int)))))]==[UInt8.ofBitVec (BitVec.ofNat 8 (Int.toNat x0)),UInt8.ofBitVec (BitVec.ofNat 8 (Int.toNat x1)),UInt8.ofBitVec (BitVec.ofNat 8 (Int.toNat x2)),UInt8.ofBitVec (BitVec.ofNat 8 (Int.toNat x3)),UInt8.ofBitVec (BitVec.ofNat 8 (Int.toNat x4)),UInt8.ofBitVec (BitVec.ofNat 8 (Int.toNat x5)),UInt8.ofBitVec (BitVec.ofNat 8 (Int.toNat x6)),UInt8.ofBitVec (BitVec.ofNat 8 (Int.toNat x7))])]))) [some (.row .look 1 0 8 (encL [U8.mk x0,U8.mk x1,U8.mk x2,U8.mk x3,U8.mk x4,U8.mk x5,U8.mk x6,U8.mk x7]))])) (dU (dU (dU z1))))) (dU (dU z2)))) (Int.ofNat (bitsN z0)))) (Int.toNat (IntKind.wrap .u64 (IntKind.wrap .u64 (IntKind.wrap .u64 (IntKind.wrap .u64 (IntKind.wrap .u64 (IntKind.wrap .u64 (IntKind.wrap .u64 (IntKind.wrap .u64 (IntKind.wrap .u64 (IntKind.wrap .u64 (IntKind.wrap .u64 (IntKind.wrap .u64 (IntKind.wrap .u64 (IntKind.wrap .u64 (IntKind.wrap .u64 ((0:Int)+IntKind.wrap .u64 x0)*(256:Int))+IntKind.wrap .u64 x1)*(256:Int))+IntKind.wrap .u64 x2)*(256:Int))+IntKind.wrap .u64 x3)*(256:Int))+IntKind.wrap .u64 x4)*(256:Int))+IntKind.wrap .u64 x5)*(256:Int))+IntKind.wrap .u64 x6)*(256:Int))+IntKind.wrap .u64 x7))):=by kernel_rfl
theorem ano_(c:Nat)(β:Bs)(K:AE→List (Option AObj)→Prop):lawE Tryz.prog d7_ 100 20 β (fun _=>20) (cnOf 1 fun _=>[]) (fun _ _=>False) 55 [.int .i64 1,.slice (some ⟨0,0,some 0⟩) 0 c] (mkS [some (rowO .look ([]:List U8))]) (outC 1 K)=
 (K (.returned (Value.tuple (Array.mk [Value.agg (Array.mk [.int .i64 (1:Int),.int .i64 (0:Int),.float .f64 0]),.bool false]))) [some (.row .look 1 0 0 (encL ([]:List U8)))]):=by kernel_rfl
theorem ann_(c:Nat)(β:Bs)(K:AE→List (Option AObj)→Prop):lawE Tryz.prog d7_ 100 20 β (fun _=>20) (cnOf 1 fun _=>[]) (fun _ _=>False) 55 [.int .i64 2,.slice (some ⟨0,0,some 0⟩) 0 c] (mkS [some (rowO .look ([]:List U8))]) (outC 1 K)=
 (K (.returned (Value.tuple (Array.mk [Value.agg (Array.mk [.int .i64 (2:Int),.int .i64 (0:Int),.float .f64 0]),.bool false]))) [some (.row .look 1 0 0 (encL ([]:List U8)))]):=by kernel_rfl
theorem anm_(c:Nat)(β:Bs)(K:AE→List (Option AObj)→Prop):lawE Tryz.prog d7_ 100 20 β (fun _=>20) (cnOf 1 fun _=>[]) (fun _ _=>False) 55 [.int .i64 3,.slice (some ⟨0,0,some 0⟩) 0 c] (mkS [some (rowO .look ([]:List U8))]) (outC 1 K)=
 (K (.returned (Value.tuple (Array.mk [Value.agg (Array.mk [.int .i64 (3:Int),.int .i64 (0:Int),.float .f64 0]),.bool false]))) [some (.row .look 1 0 0 (encL ([]:List U8)))]):=by kernel_rfl
theorem anl_(c:Nat)(β:Bs)(K:AE→List (Option AObj)→Prop):lawE Tryz.prog d7_ 100 20 β (fun _=>20) (cnOf 1 fun _=>[]) (fun _ _=>False) 55 [.int .i64 4,.slice (some ⟨0,0,some 0⟩) 0 c] (mkS [some (rowO .look ([]:List U8))]) (outC 1 K)=
 (K (.returned (Value.tuple (Array.mk [Value.agg (Array.mk [.int .i64 (4:Int),.int .i64 (0:Int),.float .f64 0]),.bool false]))) [some (.row .look 1 0 0 (encL ([]:List U8)))]):=by kernel_rfl
theorem ank_(c:Nat)(β:Bs)(K:AE→List (Option AObj)→Prop):lawE Tryz.prog d7_ 100 20 β (fun _=>20) (cnOf 1 fun _=>[]) (fun _ _=>False) 55 [.int .i64 5,.slice (some ⟨0,0,some 0⟩) 0 c] (mkS [some (rowO .look ([]:List U8))]) (outC 1 K)=
 (K (.returned (Value.tuple (Array.mk [Value.agg (Array.mk [.int .i64 (5:Int),.int .i64 (0:Int),.float .f64 0]),.bool false]))) [some (.row .look 1 0 0 (encL ([]:List U8)))]):=by kernel_rfl
def tkU(L:List U8):Nat:=beN L 0 L.length
def tkI(k:Int)(L:List U8):Int:=cond (k==5) 0 (wrF k (IntKind.wrap .i64 (tkU L:Int)))
def tkF(k:Int)(L:List U8):Nat:=cond (k==5) (tkU L) 0
def tkV(k:Int)(L:List U8):Vl:=⟨k,tkI k L,tkF k L⟩
def wiK(k:Int):Nat:=cond (k==1) 1 (cond (k==2) 2 (cond (k==3) 4 8))
def tkQ(k:Int)(L:List U8):Bool:=Nat.beq L.length (wiK k)&&(j4_ (rwL (tkV k L))==j4_ L)
def okTk(k:Int)(L:List U8):Bool:=decide (1≤k)&&decide (k≤5)&&L.all (okA U8)&&(Nat.beq L.length (wiK k)||Nat.beq L.length 0)
def anTk(k:Int)(L:List U8):Ans:= .rets [ansO (tkV k L),.cell (.sc (.bool (tkQ k L)))]
theorem h0_{k i:Int}{f:Nat}{q:Bool}{L:List U8}{M:List (Option AObj)}(h1:i=tkI k L)(h2:f=tkF k L)(h3:q=tkQ k L):HdP (∃m2,a6_ M m2∧ansE (anTk k L) (.returned (.tuple ⟨[.agg ⟨[.int .i64 k,.int .i64 i,.float .f64 f]⟩,.bool q]⟩)) (mkS m2)):=by
 subst h1 h2 h3
 exact⟨_,a6_.refl _,⟨_,[],rfl,⟨[],[],rfl,⟨_,rfl,rS_ rfl rfl (rS_ rfl rfl (rS_ rfl rfl i4_))⟩,[],[],rfl,⟨rfl,rfl,rfl⟩,rfl⟩,by simp⟩⟩
theorem e3_{b:List U8}{k:Nat}(h:b.all (okA U8)=true)(hl:b.length=k+1): ∃(n:Nat) (t:List U8),b=⟨(n:Int)⟩::t∧n<256∧t.all (okA U8)=true∧t.length=k:=by
 match b,hl,h with
 |⟨v⟩::t,hl,h=>
  rw[List.all_cons,Bool.and_eq_true]at h
  obtain⟨h1,h2⟩:=(F4_ _).1 h.1
  have h1:0≤v:=h1
  have h2:v<256:=h2
  obtain⟨n,rfl⟩:=Int.eq_ofNat_of_zero_le h1
  exact⟨n,t,rfl,by omega,h.2,by simpa using hl⟩
theorem K8_{b:List U8}(hl:b.length=0):b=[]:=List.length_eq_zero_iff.1 hl
theorem apF_{n0 c:Nat}{β:Bs}(h0:n0<256):HdP (lawE Tryz.prog d7_ 100 20 β (fun _=>20) (cnOf 1 fun _=>[]) (fun _ _=>False) 55 [.int .i64 1,.slice (some ⟨0,0,some 0⟩) 1 c] (mkS [some (rowO .look ([⟨(n0:Int)⟩]:List U8))]) (outC 1 fun r q=> ∃m2,a6_ q m2∧ansE (anTk 1 [⟨(n0:Int)⟩]) r (mkS m2))):=by
 refine⟨?_⟩
 rw[ant_]
 simp only[R3_ h0]
 exact(h0_ (k:=1) (L:=[⟨(n0:Int)⟩]) (by kernel_rfl) (by kernel_rfl) (by kernel_rfl)).1
theorem apE_{n0 n1 c:Nat}{β:Bs}(h0:n0<256)(h1:n1<256):HdP (lawE Tryz.prog d7_ 100 20 β (fun _=>20) (cnOf 1 fun _=>[]) (fun _ _=>False) 55 [.int .i64 2,.slice (some ⟨0,0,some 0⟩) 2 c] (mkS [some (rowO .look ([⟨(n0:Int)⟩,⟨(n1:Int)⟩]:List U8))]) (outC 1 fun r q=> ∃m2,a6_ q m2∧ansE (anTk 2 [⟨(n0:Int)⟩,⟨(n1:Int)⟩]) r (mkS m2))):=by
 refine⟨?_⟩
 rw[ans_]
 try dsimp only
 have e1:=h2_ (show 0*256+n0<72057594037927936 by omega) h1
 simp only[R3_ h0,e1]
 exact(h0_ (k:=2) (L:=[⟨(n0:Int)⟩,⟨(n1:Int)⟩]) (by kernel_rfl) (by kernel_rfl) (by kernel_rfl)).1
theorem apD_{n0 n1 n2 n3 c:Nat}{β:Bs}(h0:n0<256)(h1:n1<256)(h2:n2<256)(h3:n3<256):HdP (lawE Tryz.prog d7_ 100 20 β (fun _=>20) (cnOf 1 fun _=>[]) (fun _ _=>False) 55 [.int .i64 3,.slice (some ⟨0,0,some 0⟩) 4 c] (mkS [some (rowO .look ([⟨(n0:Int)⟩,⟨(n1:Int)⟩,⟨(n2:Int)⟩,⟨(n3:Int)⟩]:List U8))]) (outC 1 fun r q=> ∃m2,a6_ q m2∧ansE (anTk 3 [⟨(n0:Int)⟩,⟨(n1:Int)⟩,⟨(n2:Int)⟩,⟨(n3:Int)⟩]) r (mkS m2))):=by
 refine⟨?_⟩
 rw[anr_]
 try dsimp only
 have e1:=h2_ (show 0*256+n0<72057594037927936 by omega) h1
 have e2:=h2_ (show(0*256+n0)*256+n1<72057594037927936 by omega) h2
 have e3:=h2_ (show((0*256+n0)*256+n1)*256+n2<72057594037927936 by omega) h3
 simp only[R3_ h0,e1,e2,e3]
 exact(h0_ (k:=3) (L:=[⟨(n0:Int)⟩,⟨(n1:Int)⟩,⟨(n2:Int)⟩,⟨(n3:Int)⟩]) (by kernel_rfl) (by kernel_rfl) (by kernel_rfl)).1
theorem apC_{n0 n1 n2 n3 n4 n5 n6 n7 c:Nat}{β:Bs}(h0:n0<256)(h1:n1<256)(h2:n2<256)(h3:n3<256)(h4:n4<256)(h5:n5<256)(h6:n6<256)(h7:n7<256):HdP (lawE Tryz.prog d7_ 100 20 β (fun _=>20) (cnOf 1 fun _=>[]) (fun _ _=>False) 55 [.int .i64 4,.slice (some ⟨0,0,some 0⟩) 8 c] (mkS [some (rowO .look ([⟨(n0:Int)⟩,⟨(n1:Int)⟩,⟨(n2:Int)⟩,⟨(n3:Int)⟩,⟨(n4:Int)⟩,⟨(n5:Int)⟩,⟨(n6:Int)⟩,⟨(n7:Int)⟩]:List U8))]) (outC 1 fun r q=> ∃m2,a6_ q m2∧ansE (anTk 4 [⟨(n0:Int)⟩,⟨(n1:Int)⟩,⟨(n2:Int)⟩,⟨(n3:Int)⟩,⟨(n4:Int)⟩,⟨(n5:Int)⟩,⟨(n6:Int)⟩,⟨(n7:Int)⟩]) r (mkS m2))):=by
 refine⟨?_⟩
 rw[anq_]
 try dsimp only
 have e1:=h2_ (show 0*256+n0<72057594037927936 by omega) h1
 have e2:=h2_ (show(0*256+n0)*256+n1<72057594037927936 by omega) h2
 have e3:=h2_ (show((0*256+n0)*256+n1)*256+n2<72057594037927936 by omega) h3
 have e4:=h2_ (show(((0*256+n0)*256+n1)*256+n2)*256+n3<72057594037927936 by omega) h4
 have e5:=h2_ (show((((0*256+n0)*256+n1)*256+n2)*256+n3)*256+n4<72057594037927936 by omega) h5
 have e6:=h2_ (show(((((0*256+n0)*256+n1)*256+n2)*256+n3)*256+n4)*256+n5<72057594037927936 by omega) h6
 have e7:=h2_ (show((((((0*256+n0)*256+n1)*256+n2)*256+n3)*256+n4)*256+n5)*256+n6<72057594037927936 by omega) h7
 simp only[R3_ h0,e1,e2,e3,e4,e5,e6,e7]
 exact(h0_ (k:=4) (L:=[⟨(n0:Int)⟩,⟨(n1:Int)⟩,⟨(n2:Int)⟩,⟨(n3:Int)⟩,⟨(n4:Int)⟩,⟨(n5:Int)⟩,⟨(n6:Int)⟩,⟨(n7:Int)⟩]) (by kernel_rfl) (by kernel_rfl) (by kernel_rfl)).1
theorem apB_{n0 n1 n2 n3 n4 n5 n6 n7 c:Nat}{β:Bs}(h0:n0<256)(h1:n1<256)(h2:n2<256)(h3:n3<256)(h4:n4<256)(h5:n5<256)(h6:n6<256)(h7:n7<256):HdP (lawE Tryz.prog d7_ 100 20 β (fun _=>20) (cnOf 1 fun _=>[]) (fun _ _=>False) 55 [.int .i64 5,.slice (some ⟨0,0,some 0⟩) 8 c] (mkS [some (rowO .look ([⟨(n0:Int)⟩,⟨(n1:Int)⟩,⟨(n2:Int)⟩,⟨(n3:Int)⟩,⟨(n4:Int)⟩,⟨(n5:Int)⟩,⟨(n6:Int)⟩,⟨(n7:Int)⟩]:List U8))]) (outC 1 fun r q=> ∃m2,a6_ q m2∧ansE (anTk 5 [⟨(n0:Int)⟩,⟨(n1:Int)⟩,⟨(n2:Int)⟩,⟨(n3:Int)⟩,⟨(n4:Int)⟩,⟨(n5:Int)⟩,⟨(n6:Int)⟩,⟨(n7:Int)⟩]) r (mkS m2))):=by
 refine⟨?_⟩
 rw[anp_]
 try dsimp only
 have e1:=h2_ (show 0*256+n0<72057594037927936 by omega) h1
 have e2:=h2_ (show(0*256+n0)*256+n1<72057594037927936 by omega) h2
 have e3:=h2_ (show((0*256+n0)*256+n1)*256+n2<72057594037927936 by omega) h3
 have e4:=h2_ (show(((0*256+n0)*256+n1)*256+n2)*256+n3<72057594037927936 by omega) h4
 have e5:=h2_ (show((((0*256+n0)*256+n1)*256+n2)*256+n3)*256+n4<72057594037927936 by omega) h5
 have e6:=h2_ (show(((((0*256+n0)*256+n1)*256+n2)*256+n3)*256+n4)*256+n5<72057594037927936 by omega) h6
 have e7:=h2_ (show((((((0*256+n0)*256+n1)*256+n2)*256+n3)*256+n4)*256+n5)*256+n6<72057594037927936 by omega) h7
 simp only[R3_ h0,e1,e2,e3,e4,e5,e6,e7]
 rw[Int.toNat_natCast]
 exact(h0_ (k:=5) (L:=[⟨(n0:Int)⟩,⟨(n1:Int)⟩,⟨(n2:Int)⟩,⟨(n3:Int)⟩,⟨(n4:Int)⟩,⟨(n5:Int)⟩,⟨(n6:Int)⟩,⟨(n7:Int)⟩]) (by kernel_rfl) (by kernel_rfl) (by kernel_rfl)).1
theorem apK_{c:Nat}{β:Bs}:HdP (lawE Tryz.prog d7_ 100 20 β (fun _=>20) (cnOf 1 fun _=>[]) (fun _ _=>False) 55 [.int .i64 1,.slice (some ⟨0,0,some 0⟩) 0 c] (mkS [some (rowO .look ([]:List U8))]) (outC 1 fun r q=> ∃m2,a6_ q m2∧ansE (anTk 1 []) r (mkS m2))):=by
 refine⟨?_⟩
 rw[ano_]
 exact(h0_ (k:=1) (L:=[]) (by kernel_rfl) (by kernel_rfl) (by kernel_rfl)).1
theorem apJ_{c:Nat}{β:Bs}:HdP (lawE Tryz.prog d7_ 100 20 β (fun _=>20) (cnOf 1 fun _=>[]) (fun _ _=>False) 55 [.int .i64 2,.slice (some ⟨0,0,some 0⟩) 0 c] (mkS [some (rowO .look ([]:List U8))]) (outC 1 fun r q=> ∃m2,a6_ q m2∧ansE (anTk 2 []) r (mkS m2))):=by
 refine⟨?_⟩
 rw[ann_]
 exact(h0_ (k:=2) (L:=[]) (by kernel_rfl) (by kernel_rfl) (by kernel_rfl)).1
theorem apI_{c:Nat}{β:Bs}:HdP (lawE Tryz.prog d7_ 100 20 β (fun _=>20) (cnOf 1 fun _=>[]) (fun _ _=>False) 55 [.int .i64 3,.slice (some ⟨0,0,some 0⟩) 0 c] (mkS [some (rowO .look ([]:List U8))]) (outC 1 fun r q=> ∃m2,a6_ q m2∧ansE (anTk 3 []) r (mkS m2))):=by
 refine⟨?_⟩
 rw[anm_]
 exact(h0_ (k:=3) (L:=[]) (by kernel_rfl) (by kernel_rfl) (by kernel_rfl)).1
theorem apH_{c:Nat}{β:Bs}:HdP (lawE Tryz.prog d7_ 100 20 β (fun _=>20) (cnOf 1 fun _=>[]) (fun _ _=>False) 55 [.int .i64 4,.slice (some ⟨0,0,some 0⟩) 0 c] (mkS [some (rowO .look ([]:List U8))]) (outC 1 fun r q=> ∃m2,a6_ q m2∧ansE (anTk 4 []) r (mkS m2))):=by
 refine⟨?_⟩
 rw[anl_]
 exact(h0_ (k:=4) (L:=[]) (by kernel_rfl) (by kernel_rfl) (by kernel_rfl)).1
theorem apG_{c:Nat}{β:Bs}:HdP (lawE Tryz.prog d7_ 100 20 β (fun _=>20) (cnOf 1 fun _=>[]) (fun _ _=>False) 55 [.int .i64 5,.slice (some ⟨0,0,some 0⟩) 0 c] (mkS [some (rowO .look ([]:List U8))]) (outC 1 fun r q=> ∃m2,a6_ q m2∧ansE (anTk 5 []) r (mkS m2))):=by
 refine⟨?_⟩
 rw[ank_]
 exact(h0_ (k:=5) (L:=[]) (by kernel_rfl) (by kernel_rfl) (by kernel_rfl)).1
theorem acC_:c5_ Tryz.prog 55 (okA2 Int (Rw U8) fun k r=>okTk k r.l) (t0_ Int (Rw U8) fun k r=>anTk k r.l):=by
 refine D4_ follows fun k r _ hr hp=>LawC.of d7_ 100 20 (fun _=>20) (fun _=>[]) (fun _ _=>False) R6_ fun β hβ=> ?_
 obtain⟨L,c⟩:=r
 show HdP (lawE Tryz.prog d7_ 100 20 β (fun _=>20) (cnOf 1 fun _=>[]) (fun _ _=>False) 55 [.int .i64 k,.slice (some ⟨0,0,some 0⟩) L.length c] (mkS [some (rowO .look (L:List U8))]) (outC 1 fun r q=> ∃m2,a6_ q m2∧ansE (anTk k L) r (mkS m2)))
 have hp:(decide (1≤k)&&decide (k≤5)&&L.all (okA U8)&&(Nat.beq L.length (wiK k)||Nat.beq L.length 0))=true:=hp
 simp only[Bool.and_eq_true,Bool.or_eq_true,decide_eq_true_eq]at hp
 obtain⟨⟨⟨p1,p2⟩,hL⟩,hl⟩:=hp
 have hk:k=1∨k=2∨k=3∨k=4∨k=5:=by omega
 rcases hl with hl|hl
 ·have hl:=Nat.eq_of_beq_eq_true hl
  rcases hk with rfl|rfl|rfl|rfl|rfl
  ·obtain⟨n0,t0,rfl,h0,a0,l0⟩:=e3_ (k:=0) hL hl
   have:=K8_ l0
   subst this
   exact apF_ h0
  ·obtain⟨n0,t0,rfl,h0,a0,l0⟩:=e3_ (k:=1) hL hl
   obtain⟨n1,t1,rfl,h1,a1,l1⟩:=e3_ (k:=0) a0 l0
   have:=K8_ l1
   subst this
   exact apE_ h0 h1
  ·obtain⟨n0,t0,rfl,h0,a0,l0⟩:=e3_ (k:=3) hL hl
   obtain⟨n1,t1,rfl,h1,a1,l1⟩:=e3_ (k:=2) a0 l0
   obtain⟨n2,t2,rfl,h2,a2,l2⟩:=e3_ (k:=1) a1 l1
   obtain⟨n3,t3,rfl,h3,a3,l3⟩:=e3_ (k:=0) a2 l2
   have:=K8_ l3
   subst this
   exact apD_ h0 h1 h2 h3
  ·obtain⟨n0,t0,rfl,h0,a0,l0⟩:=e3_ (k:=7) hL hl
   obtain⟨n1,t1,rfl,h1,a1,l1⟩:=e3_ (k:=6) a0 l0
   obtain⟨n2,t2,rfl,h2,a2,l2⟩:=e3_ (k:=5) a1 l1
   obtain⟨n3,t3,rfl,h3,a3,l3⟩:=e3_ (k:=4) a2 l2
   obtain⟨n4,t4,rfl,h4,a4,l4⟩:=e3_ (k:=3) a3 l3
   obtain⟨n5,t5,rfl,h5,a5,l5⟩:=e3_ (k:=2) a4 l4
   obtain⟨n6,t6,rfl,h6,a6,l6⟩:=e3_ (k:=1) a5 l5
   obtain⟨n7,t7,rfl,h7,a7,l7⟩:=e3_ (k:=0) a6 l6
   have:=K8_ l7
   subst this
   exact apC_ h0 h1 h2 h3 h4 h5 h6 h7
  ·obtain⟨n0,t0,rfl,h0,a0,l0⟩:=e3_ (k:=7) hL hl
   obtain⟨n1,t1,rfl,h1,a1,l1⟩:=e3_ (k:=6) a0 l0
   obtain⟨n2,t2,rfl,h2,a2,l2⟩:=e3_ (k:=5) a1 l1
   obtain⟨n3,t3,rfl,h3,a3,l3⟩:=e3_ (k:=4) a2 l2
   obtain⟨n4,t4,rfl,h4,a4,l4⟩:=e3_ (k:=3) a3 l3
   obtain⟨n5,t5,rfl,h5,a5,l5⟩:=e3_ (k:=2) a4 l4
   obtain⟨n6,t6,rfl,h6,a6,l6⟩:=e3_ (k:=1) a5 l5
   obtain⟨n7,t7,rfl,h7,a7,l7⟩:=e3_ (k:=0) a6 l6
   have:=K8_ l7
   subst this
   exact apB_ h0 h1 h2 h3 h4 h5 h6 h7
 ·have hl:=K8_ (Nat.eq_of_beq_eq_true hl)
  subst hl
  rcases hk with rfl|rfl|rfl|rfl|rfl
  ·exact apK_
  ·exact apJ_
  ·exact apI_
  ·exact apH_
  ·exact apG_
def toldZ3:Told:=d7_.tree 55 (okA2 Int (Rw U8) fun k r=>okTk k r.l) (t0_ Int (Rw U8) fun k r=>anTk k r.l)
theorem toldZ3_ok:a8_ Tryz.prog toldZ3:=Told.tree_ok R6_ acC_
end Go.Proofs.YtachglcffimmeaaGreat.Ev
