/-
  Pieces of code one behind the other: a choice that is told, a block, a loop that is told of.
-/
import Derived.Test.YtibobihgolfplaaGreatDoorGh
import Derived.Test.YtibobihgolfplaaGreatDoorGg
import Derived.Test.YtibobihgolfplaaGreatDoorGl
set_option linter.unusedVariables false
section
namespace Go.Proofs.YtibobihgolfplaaGreatDoor.Ev
open Go Go.RowKit
theorem J.choice{P:Program}{β:Bs}{t:Nat}{q:Bool}{c d:Code}{f:AFr}{st:ASt}{K:Kt}(hq:f.tmps.get t=some (.bool q))(h1:q=true→J P β c f st K)(h0:q=false→J P β d f st K):J P β (.cond (.tmp t) c d) f st K:=by
 intro Q ρ a w hr hp
 have hfe:f.ev (.tmp t)= .bool q:=by simp only[AFr.ev,AFr.tmp,hq]
 have hv:=hr.fr.ev (.tmp t)
 rw[hfe]at hv
 generalize hA:a.eval (.tmp t)=A at hv
 cases hv
 refine wp_cond_split hA (fun e=> ?_) (fun e=> ?_)
 ·exact h1 e Q ρ a w hr hp
 ·exact h0 e Q ρ a w hr hp
def blkK(id:Nat)(K:Kt):Kt:=fun x f st=>match x with
 | .exit i=>cond (Nat.beq i id) (K .normal f st) (K (.exit i) f st)
 |x=>K x f st
theorem J.block{P:Program}{β:Bs}{id:Nat}{c:Code}{f:AFr}{st:ASt}{K:Kt}(h:J P β c f st (blkK id K)):J P β (.block id c) f st K:=by
 intro Q ρ a w hr hp
 refine wp_block (h _ ρ a w hr fun x f' st' ρ' e' a' w' hk hx hr'=> ?_)
 cases x with
 |normal=>cases hx;exact hp _ f' st' ρ' _ a' w' hk rfl hr'
 |exit i=>
  cases hx
  simp only[blkK]at hk
  cases hb:Nat.beq i id with
  |true=>
   rw[hb]at hk
   have:=Nat.eq_of_beq_eq_true hb
   subst this
   simp only[Exit.inBlock,if_true]
   exact hp _ f' st' ρ' _ a' w' hk rfl hr'
  |false=>
   rw[hb]at hk
   simp only[Exit.inBlock,if_neg (Nat.ne_of_beq_eq_false hb)]
   exact hp _ f' st' ρ' _ a' w' hk rfl hr'
 |ret=>cases hx;exact hp _ f' st' ρ' _ a' w' hk rfl hr'
 |panic v=>obtain⟨v',rfl,hv⟩:=hx;exact hp _ f' st' ρ' _ a' w' hk ⟨v',rfl,hv⟩ hr'
def seqA:Code→Code
 | .seq a _=>a
 |c=>c
def seqB:Code→Code
 | .seq _ b=>b
 |c=>c
def cndA:Code→Code
 | .cond _ a _=>a
 |c=>c
def cndB:Code→Code
 | .cond _ _ b=>b
 |c=>c
def blkC:Code→Code
 | .block _ c=>c
 |c=>c
def codesKO(P:Program)(sk:SelfK)(fuel:Nat)(T:List Nat):List Code→AFr→ASt→List Bool→KtO→Prop
 |[],f,st,os,K=>K .normal f st os
 |c::l,f,st,os,K=>codeKO P sk fuel T c f st os fun x f' st' os'=>match x with
  | .normal=>codesKO P sk fuel T l f' st' os' K
  |x=>K x f' st' os'
def chainC:List Code→Code→Code
 |[],d=>d
 |c::l,d=> .seq c (chainC l d)
def endKO(E:Nat)(lv:AX→List Nat)(N:Kt):KtO:=fun x f st _=>match x with
 | .panic _=>False
 |x=>canonK E (lv x) (N x) f st
def pieceL(P:Program)(C:Told)(E:Nat)(lv:AX→List Nat)(T:List Nat)(os:List Bool)(cs:List Code)(f:AFr)(st:ASt)(N:Kt):Prop:=
 codesKO P (funK P C 100000 90) 100000 T cs f st os (endKO E lv N)
def thenK(P:Program)(β:Bs)(d:Code)(K:Kt):Kt:=fun x f st=>match x with
 | .normal=>J P β d f st K
 |x=>K x f st
theorem endKO_ok{P:Program}{β:Bs}{E:Nat}(hE:β.X.length=E){lv:AX→List Nat}{d:Code}{K:Kt}{x:AX}(hx:x≠ .normal){f:AFr}{st:ASt}{os:List Bool}(h:endKO E lv (thenK P β d K) x f st os){Q:Exit→Act→World→Prop}{ρ:Rho}{e':Exit}{a:Act}{w:World}(hxr:XR ρ x e')(hr:Rl β ρ f st a w)(hp:PostJ β K Q):Q e' a w:=by
 cases x with
 |panic v=>exact h.elim
 |normal=>exact absurd rfl hx
 |exit i=>obtain⟨ρ2,f2,st2,k1,k2⟩:=canonK_ok h hE hr;exact hp _ f2 st2 ρ2 e' a w k1 hxr k2
 |ret=>obtain⟨ρ2,f2,st2,k1,k2⟩:=canonK_ok h hE hr;exact hp _ f2 st2 ρ2 e' a w k1 hxr k2
theorem pieceL_ok{P:Program}{C:Told}(hm:P.follows .mixedOrders=true)(hC:ToldS P C){β:Bs}{E:Nat}(hE:β.X.length=E){lv:AX→List Nat}{T:List Nat}{d:Code}{K:Kt}: ∀{cs:List Code} {os:List Bool} {f:AFr} {st:ASt},codesKO P (funK P C 100000 90) 100000 T cs f st os (endKO E lv (thenK P β d K))→J P β (chainC cs d) f st K:=by
 intro cs
 induction cs with
 |nil=>
  intro os f st h Q ρ a w hr hp
  obtain⟨ρ2,f2,st2,k1,k2⟩:=canonK_ok (h:canonK E (lv .normal) (thenK P β d K .normal) f st) hE hr
  exact k1 Q ρ2 a w k2 hp
 |cons c l ih=>
  intro os f st h Q ρ a w hr hp
  simp only[codesKO]at h
  obtain⟨x,f',st',os',h1,h2⟩:=codeKO_ok (funK_ok P C 100000 90) h
  obtain⟨h3,h4⟩:=evCode_sound (evFunC_sound hm hC 100000 90) hm 100000 c f st x f' st' hr.wf h1
  refine wp_seq (h4 _ ρ w a hr.fr hr.wr hr.fresh.to fun ρ' e' a' w' hxr hf' hm'=> ?_)
  have hr':=hr.step h3 hf' hm'
  cases x with
  |normal=>cases hxr;exact ih h2 Q ρ' a' w' hr' hp
  |exit i=>cases hxr;exact(endKO_ok (Q:=Q) hE (by simp) h2 rfl hr' hp:Q _ a' w')
  |ret=>cases hxr;exact(endKO_ok (Q:=Q) hE (by simp) h2 rfl hr' hp:Q _ a' w')
  |panic v=>exact(h2:False).elim
end Go.Proofs.YtibobihgolfplaaGreatDoor.Ev
end
section
namespace Go.Proofs.YtibobihgolfplaaGreatDoor.Ev
open Go
noncomputable section
def repF{α:Type}(f:Nat→List α):Nat→List α
 |0=>[]
 |n+1=>repF f n++f n
def dstN:Nat→Nat→Nat
 |0,h=>h
 |k+1,h=>dstN k h+1
def dstE:Nat→Nat→(Nat→Nat→Td)→Nat→Nat→Td
 |0,_,e=>e
 |k+1,h,e=>fun j q=>mrgT (Nat.blt j (dstN k h)) (dstE k h e (0+j) q) (.sc bad)
def qI(x:Int):Value:= .int .i64 x
def qR(x:Nat):Value:= .float .f64 x
def rdO0:AObj:= .cells [.string ⟨#[97]⟩,qi 1,qi 2,qi 0,qi 2,qi 0,qf,qi 0,qi 0,qf,.string ⟨#[98]⟩,qi 1,qi 1,qi 0,qi 1,qi 0,qf,qi 0,qi 0,qf,.string ⟨#[111]⟩,qi 2,qi 2,qi 0,qi 2,qi 1,qf,qi 2,qi 9,qf,.string ⟨#[110]⟩,qi 3,qi 2,qi 0,qi 2,qi 0,qf,qi 0,qi 0,qf,.string ⟨#[120]⟩,qi 3,qi 2,qi 0,qi 2,qi 0,qf,qi 0,qi 0,qf,.string ⟨#[114]⟩,qi 3,qi 5,qi 0,qi 5,qi 0,qf,qi 0,qi 0,qf,.string ⟨#[107]⟩,qi 3,qi 2,qi 3,qi 2,qi 0,qf,qi 0,qi 0,qf] false 10
def rdO1:AObj:= .cells [qi 1,qi 2,qi 2,.string ⟨#[110]⟩,qe,qi 3,qi 0,qi 0,qi 0,qf,q0,qi 4,qi 2,qe,qe,qi 0,qi 0,qi 0,qi 0,qf,qs 4 2 2,q0,q0,qe,qi 0,qi 0,q0,qi 1,qi 2,qi 2,.string ⟨#[111]⟩,qe,qi 2,qi 0,qi 0,qi 0,qf,q0,qi 4,qi 2,qe,qe,qi 0,qi 0,qi 0,qi 0,qf,qs 5 2 2,q0,q0,qe,qi 0,qi 0,q0,qi 2,qi 0,qi 0,qe,qe,qi 0,qi 0,qi 0,qi 0,qf,q0,qi 2,qi 1,.string ⟨#[98]⟩,qe,qi 1,qi 0,qi 0,qi 0,qf,q0,qs 6 1 1,q0,qe,qi 0,qi 0,q0,qi 1,qi 2,qi 5,.string ⟨#[114]⟩,qe,qi 5,qi 0,qi 0,qi 0,qf,q0,qi 4,qi 5,qe,qe,qi 0,qi 0,qi 0,qi 0,qf,qs 8 2 2,q0,q0,qe,qi 0,qi 0,q0] false 27
def rdO2:AObj:= .cells [qi 2,qi 2,.string ⟨#[110]⟩,qe,qi 3,qi 0,qi 0,qi 0,qf,q0,qi 1,qi 2,qe,qe,qi 0,qi 0,qi 2,qi 1,qf,q0] false 10
def rdO3:AObj:= .cells [qi 2,qi 2,.string ⟨#[120]⟩,qe,qi 4,qi 0,qi 0,qi 0,qf,q0,qi 2,qi 2,.string ⟨#[97]⟩,qe,qi 0,qi 0,qi 0,qi 0,qf,q0] false 10
def rdO4:AObj:= .cells [qi 1,qi 3,qi 2,.string ⟨#[107]⟩,qe,qi 6,qi 3,qi 0,qi 0,qf,qs 7 1 1,qi 2,qi 2,.string ⟨#[97]⟩,qe,qi 0,qi 0,qi 0,qi 0,qf,q0,q0,q0,qe,qi 0,qi 0,q0] false 27
def rdO5:AObj:= .cells [qi 2,qi 2,.string ⟨#[120]⟩,qe,qi 4,qi 0,qi 0,qi 0,qf,q0] false 10
def rdO6:AObj:= .cells [qi 2,qi 5,.string ⟨#[114]⟩,qe,qi 5,qi 0,qi 0,qi 0,qf,q0,qi 1,qi 5,qe,qe,qi 0,qi 0,qi 5,qi 0,.float .f64 4602678819172646912,q0] false 10
def rdO7:AObj:= .cells [.string ⟨#[97]⟩,qi 1,qi 2,qi 0,qi 2,qi 0,qf,qi 0,qi 0,qf,.string ⟨#[98]⟩,qi 1,qi 1,qi 0,qi 1,qi 0,qf,qi 0,qi 0,qf,.string ⟨#[111]⟩,qi 2,qi 2,qi 0,qi 2,qi 1,qf,qi 2,qi 9,qf,.string ⟨#[110]⟩,qi 3,qi 2,qi 0,qi 2,qi 0,qf,qi 0,qi 0,qf,.string ⟨#[120]⟩,qi 3,qi 2,qi 0,qi 2,qi 0,qf,qi 0,qi 0,qf,.string ⟨#[114]⟩,qi 3,qi 5,qi 0,qi 5,qi 0,qf,qi 0,qi 0,qf,.string ⟨#[107]⟩,qi 3,qi 2,qi 3,qi 2,qi 0,qf,qi 0,qi 0,qf] false 10
def rdO8:AObj:= .cells [qi 2,qi 0,qi 3,qi 0,qi 0,qi 0,qf,qi 1,qi 2,qi 0,qi 0,qi 2,qi 1,qf,qi 4,qi 2,qi 0,qi 0,qi 0,qi 0,qf,qi 18,qi 0,qi 3,qi 0,qi 0,qi 0,qf,qi 2,qi 0,qi 4,qi 0,qi 0,qi 0,qf,qi 2,qi 0,qi 0,qi 0,qi 0,qi 0,qf,qi 4,qi 2,qi 0,qi 0,qi 0,qi 0,qf,qi 18,qi 0,qi 2,qi 0,qi 0,qi 0,qf,qi 2,qi 0,qi 1,qi 0,qi 0,qi 0,qf,qi 21,qi 0,qi 13,qi 0,qi 0,qi 0,qf,qi 2,qi 0,qi 0,qi 0,qi 0,qi 0,qf,qi 2,qi 0,qi 4,qi 0,qi 0,qi 0,qf,qi 19,qi 0,qi 6,qi 3,qi 0,qi 0,qf,qi 2,qi 0,qi 5,qi 0,qi 0,qi 0,qf,qi 1,qi 5,qi 0,qi 0,qi 5,qi 0,.float .f64 4602678819172646912,qi 4,qi 5,qi 0,qi 0,qi 0,qi 0,qf,qi 18,qi 0,qi 5,qi 0,qi 0,qi 0,qf,qi 23,qi 0,qi 0,qi 0,qi 0,qi 0,qf] false 7
def rdStat(l:List (Option AObj)):List (Option AObj):=some rdO0::some rdO1::some rdO2::some rdO3::some rdO4::some rdO5::some rdO6::some rdO7::some rdO8::l
def rdImg(o n:Int)(r:Nat):AObj:= .cells [qi 2,qi 0,qf,qi 1,qi 0,qf,qi 2,qI o,qf,qi 2,qI n,qf,qi 2,qi 0,qf,qi 5,qi 0,qR r,qi 2,qi 0,qf,qi 2,qi 0,qf,qi 2,qi 0,qf] false 3
def rdInp:AObj:= .cells [qi 2,qi 0,qf,qi 1,qi 0,qf,qi 2,qi 1,qf,qi 2,qi 0,qf,qi 2,qi 0,qf,qi 5,qi 0,qf,qi 2,qi 0,qf,qi 2,qi 0,qf,qi 2,qi 0,qf] false 3
def rdPth(b:Bool):AObj:= .cells [.string ⟨#[110]⟩,.string ⟨#[111]⟩,.string ⟨#[114]⟩] b 1
structure RdM where
 pc:Int
 us:Int
 ov:Bool
 st:Option (Nat×Nat×List Value×Bool)
 mem:Option (Int×Int×Nat)
def rdM(ph:Nat)(o n:Int)(r:Nat):RdM:=match ph with
 |0=>⟨0,0,true,none,none⟩
 |1=>⟨0,0,false,none,some (o,n,r)⟩
 |2=>⟨1,1,false,some (1,1,[qi 2,qI n,qf],false),some (o,n,r)⟩
 |3=>⟨2,2,false,some (2,2,[qi 2,qI n,qf,qi 2,qi 1,qf],false),some (o,n,r)⟩
 |4=>⟨3,3,false,some (1,2,[qi 2,qI (incN n),qf,qi 2,qi 1,qf],false),some (o,n,r)⟩
 |5=>⟨4,4,false,some (0,1,[qi 2,qI (incN n),qf],false),some (o,(incN n),r)⟩
 |6=>⟨5,5,false,some (1,1,[qi 2,qi 0,qf],false),some (o,(incN n),r)⟩
 |7=>⟨6,6,false,some (2,2,[qi 2,qi 0,qf,qi 2,qi 0,qf],false),some (o,(incN n),r)⟩
 |8=>⟨7,7,false,some (1,2,[qi 2,qi 0,qf,qi 2,qi 0,qf],false),some (o,(incN n),r)⟩
 |9=>⟨8,8,false,some (0,1,[qi 2,qi 0,qf],false),some (0,(incN n),r)⟩
 |10=>⟨9,9,false,some (1,1,[qi 1,qi 0,qf],false),some (0,(incN n),r)⟩
 |11=>⟨13,10,false,some (0,1,[qi 1,qi 0,qf],false),some (0,(incN n),r)⟩
 |12=>⟨14,11,false,some (1,1,[qi 5,qi 0,qR r],false),some (0,(incN n),r)⟩
 |13=>⟨15,12,false,some (2,2,[qi 5,qi 0,qR r,qi 5,qi 0,.float .f64 4602678819172646912],false),some (0,(incN n),r)⟩
 |14=>⟨16,13,false,some (1,2,[qi 5,qi 0,qR (halfF r),qi 5,qi 0,.float .f64 4602678819172646912],false),some (0,(incN n),r)⟩
 |15=>⟨17,14,false,some (0,1,[qi 5,qi 0,qR (halfF r)],false),some (0,(incN n),(halfF r))⟩
 |16=>⟨17,15,true,some (0,0,[],true),some (0,n,r)⟩
 |_=>⟨0,0,true,none,none⟩
def rB(k:Nat):Nat:=match k with
 |0=>0
 |1=>4602678819172646912
 |2=>4607182418800017408
 |3=>4609434218613702656
 |4=>4611686018427387904
 |5=>4612811918334230528
 |6=>4613937818241073152
 |7=>4615063718147915776
 |8=>4616189618054758400
 |9=>4616752568008179712
 |10=>4617315517961601024
 |11=>4617878467915022336
 |12=>4618441417868443648
 |13=>4619004367821864960
 |14=>4619567317775286272
 |15=>4620130267728707584
 |16=>4620693217682128896
 |17=>4620974692658839552
 |18=>4621256167635550208
 |19=>4621537642612260864
 |20=>4621819117588971520
 |21=>4622100592565682176
 |22=>4622382067542392832
 |23=>4622663542519103488
 |24=>4622945017495814144
 |25=>4623226492472524800
 |26=>4623507967449235456
 |27=>4623789442425946112
 |28=>4624070917402656768
 |29=>4624352392379367424
 |30=>4624633867356078080
 |31=>4624915342332788736
 |_=>0
def oB:Nat→Int
 |0=>1
 |_=>0
end
noncomputable section
structure RdG where
 o:Nat→Int
 n:Nat→Int
 r:Nat→Nat
def RdG.put(G:RdG)(i:Nat)(o n:Int)(r:Nat):RdG:=⟨fun j=>cond (Nat.beq j i) o (G.o j),fun j=>cond (Nat.beq j i) n (G.n j),fun j=>cond (Nat.beq j i) r (G.r j)⟩
def rdStV:Option (Nat×Nat×List Value×Bool)→Value
 |none=>q0
 |some p=>qs 12 p.1 p.2.1
def rdStO:Option (Nat×Nat×List Value×Bool)→List (Option AObj)
 |none=>[]
 |some p=>[some (.cells p.2.2.1 p.2.2.2 3)]
def rdMeO:Option (Int×Int×Nat)→List (Option AObj)
 |none=>[]
 |some p=>[some (rdImg p.1 p.2.1 p.2.2)]
def rdN{α:Type}:Option α→Nat
 |none=>0
 |some _=>1
def rdMeV(b:Nat):Option (Int×Int×Nat)→Value
 |none=>q0
 |some _=>qs b 9 9
def rdKids:Nat→Nat
 |0=>0
 |1=>1
 |2=>3
 |_=>5
def rdSe1(a b c:Value):AObj:= .cells [.bool true,qi 0,a,.bool false,b,c,q0,qi 0,.bool true,qi 0,q0,.bool false,q0,q0,q0,qi 0,.bool false,qi 0,q0,.bool false,q0,q0,q0,qi 0,.bool false,qi 0,q0,.bool false,q0,q0,q0,qi 0] false 8
def rdAns(id:Nat)(v:Value):List Value:=[qi 6,qi id,qi 0,qi 0,qi 0,.bool false,qi 0,qi 0,qi 0,qf,q0,v]
def rdReq(id:Nat)(p:Value):List Value:=[qi 1,qi id,qi 0,qi 0,qi 0,.bool false,qi 0,qi 0,qi 0,qf,p,q0]
def rdVal(o n:Int)(r:Nat):AObj:= .cells [qi 2,qI n,qf,qi 2,qI o,qf,qi 5,qi 0,qR r] false 3
def rdSess(kd i sb:Nat)(o n:Int)(r:Nat):List (Option AObj):=match kd with
 |0=>[some (rdSe1 q0 q0 q0)]
 |1=>[some (rdSe1 (qs (sb+1) 0 0) q0 q0),some (.cells [] true 1)]
 |2=>[some (rdSe1 (qs (sb+1) 0 0) q0 (qt (sb+2) 12 0 0)),some (.cells [] true 1),some (.cells (rdAns (i-1) (qs (sb+3) 3 3)) false 12),some (rdVal o n r)]
 |_=>[some (rdSe1 (qs (sb+1) 0 0) (qt (sb+2) 12 0 0) (qs (sb+4) 1 1)),some (.cells [] true 1),some (.cells (rdReq i (qs (sb+3) 3 3)) false 12),some (rdPth false),some (.cells (rdAns i (qs (sb+5) 3 3)) false 12),some (rdVal o n r)]
def rdHb(i ib:Nat):Nat:=match i with
 |0=>ib+1
 |i+1=>ib+4+i
def rdGotV(i ib:Nat):Value:=match i with
 |0=>q0
 |i+1=>qs (ib+1) (i+1) (i+1)
def rdFromV(i ib:Nat):Value:=match i with
 |0=>q0
 |i+1=>qs (ib+3+i) (i+1) (i+1)
def rdGotO(i ib:Nat)(G:RdG):List (Option AObj):=match i with
 |0=>[]
 |i+1=>some (.cells (repF (fun j=>rdAns j (qs (ib+2+j) 3 3)) (i+1)) false 12)::(repF (fun j=>[some (rdVal (G.o j) (G.n j) (G.r j))]) (i+1)++[some (.cells (repF (fun _=>[qi 0]) (i+1)) false 1)])
def rdAskV(a hb:Nat):Value:=match a with
 |0=> .map none
 |_=> .map (some (hb+1))
def rdAskO(a hb:Nat):List (Option AObj):=match a with
 |0=>[]
 |a+1=>some (.map (repF (fun k=>[{key:= .agg ⟨[qi 0,qi k]⟩,val:= .agg ⟨rdReq k (qs (hb+2+k) 3 3)⟩,born:=k}]) (a+1)) (a+1))::repF (fun _=>[some (rdPth true)]) (a+1)
def rdCl(i a sb ib:Nat)(m:RdM)(N:Int)(h:Nat):AObj:= .cells [qs 2 7 7,qs 3 4 4,qs 9 7 7,qs 10 18 18,qi 100,qs 11 9 9,qI m.pc,rdStV m.st,rdMeV (12+rdN m.st) m.mem,qI m.us,qi 0,.bool m.ov,qi 0,qi 0,qI N,qi 0,qs sb 4 4,q0,qs ib 9 9,rdGotV i ib,rdFromV i ib,.slice (some ⟨rdHb i ib,0,some 0⟩) h 7,rdAskV a (rdHb i ib),.bool false] true 0
def rdS2(i a kd sb ib:Nat)(m:RdM)(G:RdG)(o n N:Int)(r h:Nat)(e:Nat→Nat→Td)(g:AObj)(l:List (Option AObj)):List (Option AObj):=
 (some g::some (rdCl i a sb ib m N h)::rdStat (some (rdImg o n r)::(rdStO m.st++(rdMeO m.mem++(rdSess kd i sb o n r++(some rdInp::rdGotO i ib G))))))++some (.row .mine 8 0 h e)::(rdAskO a (rdHb i ib)++l)
def rdHeap(i a kd:Nat)(m:RdM)(G:RdG)(o n N:Int)(r h:Nat)(e:Nat→Nat→Td)(g:AObj)(l:List (Option AObj)):List (Option AObj):=rdS2 i a kd (12+rdN m.st+rdN m.mem) (13+rdN m.st+rdN m.mem+rdKids kd) m G o n N r h e g l
def rdEnd(i a kd:Nat)(m:RdM):Nat:=(match a with|0=>0|a+1=>a+2)+(rdHb i (13+rdN m.st+rdN m.mem+rdKids kd)+1)
def rdTk:Nat→List Value→List Value
 |0,_=>[]
 |_+1,[]=>[]
 |n+1,v::l=>v::rdTk n l
def rdTrim(m:RdM):RdM:=⟨m.pc,m.us,m.ov,match m.st with
 |none=>none
 |some p=>match p.1 with
  |0=>some (0,0,[],true)
  |k+1=>some (k+1,k+1,rdTk (3*(k+1)) p.2.2.1,false),m.mem⟩
def rdMb(ph:Nat):Bool→Int→Int→Nat→RdM
 |true,o,n,r=>rdM ph o n r
 |false,o,n,r=>rdTrim (rdM ph o n r)
def rdKd:Nat→Bool→Nat
 |0,_=>0
 |_+1,true=>1
 |_+1,false=>2
def oP:Nat→Int→Int
 |0,_=>1
 |16,_=>0
 |_,o=>o
def nP:Nat→Int→Int
 |0,_=>0
 |_,n=>n
def rP:Nat→Nat→Nat
 |0,_=>0
 |_,r=>r
def rdSt(i ph:Nat)(b:Bool)(G:RdG)(o n N:Int)(r h:Nat)(e:Nat→Nat→Td)(g:AObj):List (Option AObj):=rdHeap i i (rdKd i b) (rdMb ph b (oP ph o) (nP ph n) (rP ph r)) G (oP ph o) (nP ph n) (nP ph N) (rP ph r) h e g []
def rdSv(i:Nat)(m:RdM)(G:RdG)(o n N:Int)(r h:Nat)(e:Nat→Nat→Td)(g:AObj):List (Option AObj):=rdHeap i (i+1) 3 m G o n N r h e g [some (rdImg o n r)]
def nxP:Nat→Nat
 |16=>1
 |p=>p+1
def nxO:Nat→Int→Int
 |0,_=>1
 |15,_=>0
 |16,_=>0
 |_,o=>o
def nxN:Nat→Int→Int
 |0,_=>0
 |15,n=>incN n
 |_,n=>n
def nxI:Nat→Int→Int
 |0,_=>0
 |15,n=>incI n
 |_,n=>n
def nxR:Nat→Nat→Nat
 |0,_=>0
 |15,r=>halfF r
 |_,r=>r
def nxH:Nat→Nat→Nat
 |0,h=>h+1
 |15,h=>h+1
 |16,h=>h+1
 |_,h=>h
def nxE:Nat→Nat→(Nat→Nat→Td)→Nat→Nat→Td
 |0,h,e=>dstE 1 h e
 |15,h,e=>dstE 1 h e
 |16,h,e=>dstE 1 h e
 |_,_,e=>e
def rdSl:Nat→Nat→Value:=fun L c=> .slice (some ⟨0,0,some 0⟩) L c
def rdW:Value:= .pointer (some ⟨1,0,none⟩)
end
noncomputable def rdRow(L:Nat)(y:Nat→Int):AObj:= .row .still 1 0 L fun i _=> .sc (.int .u8 (y i))
noncomputable def rdTm:Nat:=115
noncomputable def rdFo(L c i:Nat):AFr:=mkF rdTm [(0,rdSl L c),(3,rdW),(5,qi i)]
noncomputable def rdFi(L c i:Nat)(s:Int):AFr:=mkF rdTm [(0,rdSl L c),(3,rdW),(5,qi i),(6,qI s)]
noncomputable def rdFs(L c i b:Nat):AFr:=mkF rdTm [(0,rdSl L c),(3,rdW),(5,qi i),(7,qs b 9 9)]
noncomputable def rdLo:AX→List Nat
 | .normal=>[0,3,5]
 |_=>[]
noncomputable def rdLi:AX→List Nat
 | .normal=>[0,3,5,6]
 |_=>[0,3,5]
noncomputable def rdLx:AX→List Nat
 |_=>[0,3,5]
noncomputable def rdLs:AX→List Nat
 |_=>[0,3,5,7]
noncomputable def rdBody:Code:=loopOf Tryz.prog 3 0
noncomputable def rdHead:Code:=seqA rdBody
noncomputable def rdMid:Code:=blkC (seqA (seqB rdBody))
noncomputable def rdTail:Code:=seqB (seqB rdBody)
noncomputable def rdZero:Code:=seqA (seqA rdMid)
noncomputable def rdInner:Code:=loopOf Tryz.prog 3 2
noncomputable def rdRest:Code:=seqB rdMid
noncomputable def rdAsk:List Code:=[seqA rdRest,seqA (seqB rdRest),seqA (seqB (seqB rdRest)),seqA (seqB (seqB (seqB rdRest)))]
noncomputable def rdSend:Code:=seqB (seqB (seqB (seqB rdRest)))
structure RdV where
 q:Nat
 pc:Int
 us:Int
 om:Int
 nm:Int
 rm:Nat
 a:Int
 b:Int
 c:Nat
 d:Int
 e:Int
 f:Nat
noncomputable def rdShM(sh k:Nat)(v:RdV):RdM:=match sh with
 |0=>⟨0,0,true,none,none⟩
 |1=>⟨0,0,false,none,some (oB k,.ofNat k,rB k)⟩
 |2=>⟨.ofNat (v.q+1),v.us,false,some (0,0,[],true),some (v.om,v.nm,v.rm)⟩
 |3=>⟨v.pc,v.us,false,some (1,1,[qI v.a,qI v.b,qR v.c],false),some (v.om,v.nm,v.rm)⟩
 |4=>⟨v.pc,v.us,false,some (2,2,[qI v.a,qI v.b,qR v.c,qI v.d,qI v.e,qR v.f],false),some (v.om,v.nm,v.rm)⟩
 |_=>⟨17,15,true,some (0,0,[],true),some (0,.ofNat k,rB k)⟩
noncomputable def rdHs(i sh k:Nat)(v:RdV)(G:RdG)(o n N:Int)(r h:Nat)(g:AObj):List (Option AObj):=rdHeap i i (rdKd i false) (rdShM sh k v) G o n N r h dustE g []
noncomputable def rdHdA(i sh:Nat)(k c L:Nat)(y:Nat→Int)(G:RdG)(o n N:Int)(r h:Nat)(v:RdV)(Nx:Kt):Prop:=pieceO Tryz.prog toldV 1 rdLo [22] [true] rdHead (rdFo L c i) (mkS (rdHs i sh k v G o n N r h (rdRow L y))) Nx
noncomputable def rdHdB(i sh:Nat)(k c L:Nat)(y:Nat→Int)(G:RdG)(o n N:Int)(r h:Nat)(v:RdV)(Nx:Kt):Prop:=need (decide (Int.ofNat i<Int.ofNat L)) (Nx .normal (rdFo L c i) (mkS (rdHs i sh k v G o n N r h (rdRow L y))))
noncomputable def RdHd(i sh:Nat):Prop:= ∀(k c L:Nat) (y:Nat→Int) (G:RdG) (o n N:Int) (r h:Nat) (v:RdV) (Nx:Kt),rdHdA i sh k c L y G o n N r h v Nx=rdHdB i sh k c L y G o n N r h v Nx
noncomputable def RdHdL(i:Nat)(l:List Nat):Prop:= ∀(k c L:Nat) (y:Nat→Int) (G:RdG) (o n N:Int) (r h:Nat) (v:RdV) (Nx:Kt),l.map (fun sh=>rdHdA i sh k c L y G o n N r h v Nx)=l.map (fun sh=>rdHdB i sh k c L y G o n N r h v Nx)
theorem RdHdL.at{i:Nat}{l:List Nat}(hl:RdHdL i l){sh:Nat}(hx:sh∈l):RdHd i sh:=fun k c L y G o n N r h v Nx=>List.map_inj_left.1 (hl k c L y G o n N r h v Nx) sh hx
noncomputable def rdExA(i sh:Nat)(k c L:Nat)(y:Nat→Int)(G:RdG)(o n N:Int)(r h:Nat)(v:RdV)(Nx:Kt):Prop:=pieceO Tryz.prog toldV 1 rdLo [22] [false] rdHead (rdFo L c i) (mkS (rdHs i sh k v G o n N r h (rdRow L y))) Nx
noncomputable def rdExB(i sh:Nat)(k c L:Nat)(y:Nat→Int)(G:RdG)(o n N:Int)(r h:Nat)(v:RdV)(Nx:Kt):Prop:=need (!(decide (Int.ofNat i<Int.ofNat L))) (Nx (.exit 0) (mkF rdTm []) (mkS [some (rdRow L y)]))
noncomputable def RdEx(i sh:Nat):Prop:= ∀(k c L:Nat) (y:Nat→Int) (G:RdG) (o n N:Int) (r h:Nat) (v:RdV) (Nx:Kt),rdExA i sh k c L y G o n N r h v Nx=rdExB i sh k c L y G o n N r h v Nx
noncomputable def RdExL(i:Nat)(l:List Nat):Prop:= ∀(k c L:Nat) (y:Nat→Int) (G:RdG) (o n N:Int) (r h:Nat) (v:RdV) (Nx:Kt),l.map (fun sh=>rdExA i sh k c L y G o n N r h v Nx)=l.map (fun sh=>rdExB i sh k c L y G o n N r h v Nx)
theorem RdExL.at{i:Nat}{l:List Nat}(hl:RdExL i l){sh:Nat}(hx:sh∈l):RdEx i sh:=fun k c L y G o n N r h v Nx=>List.map_inj_left.1 (hl k c L y G o n N r h v Nx) sh hx
noncomputable def rdZrA(i sh:Nat)(k c L:Nat)(y:Nat→Int)(G:RdG)(o n N:Int)(r h:Nat)(v:RdV)(Nx:Kt):Prop:=pieceO Tryz.prog toldV 1 rdLi [] [] rdZero (rdFo L c i) (mkS (rdHs i sh k v G o n N r h (rdRow L y))) Nx
noncomputable def rdZrB(i sh:Nat)(k c L:Nat)(y:Nat→Int)(G:RdG)(o n N:Int)(r h:Nat)(v:RdV)(Nx:Kt):Prop:=Nx .normal (rdFi L c i 0) (mkS (rdHs i sh k v G o n N r h (rdRow L y)))
noncomputable def RdZr(i sh:Nat):Prop:= ∀(k c L:Nat) (y:Nat→Int) (G:RdG) (o n N:Int) (r h:Nat) (v:RdV) (Nx:Kt),rdZrA i sh k c L y G o n N r h v Nx=rdZrB i sh k c L y G o n N r h v Nx
noncomputable def RdZrL(i:Nat)(l:List Nat):Prop:= ∀(k c L:Nat) (y:Nat→Int) (G:RdG) (o n N:Int) (r h:Nat) (v:RdV) (Nx:Kt),l.map (fun sh=>rdZrA i sh k c L y G o n N r h v Nx)=l.map (fun sh=>rdZrB i sh k c L y G o n N r h v Nx)
theorem RdZrL.at{i:Nat}{l:List Nat}(hl:RdZrL i l){sh:Nat}(hx:sh∈l):RdZr i sh:=fun k c L y G o n N r h v Nx=>List.map_inj_left.1 (hl k c L y G o n N r h v Nx) sh hx
noncomputable def rdTlA(i sh:Nat)(k c L:Nat)(y:Nat→Int)(G:RdG)(o n N:Int)(r h:Nat)(v:RdV)(Nx:Kt):Prop:=pieceO Tryz.prog toldV 1 rdLx [] [] rdTail (rdFo L c i) (mkS (rdHs (i+1) sh k v G o n N r h (rdRow L y))) Nx
noncomputable def rdTlB(i sh:Nat)(k c L:Nat)(y:Nat→Int)(G:RdG)(o n N:Int)(r h:Nat)(v:RdV)(Nx:Kt):Prop:=Nx .normal (rdFo L c (i+1)) (mkS (rdHs (i+1) sh k v G o n N r h (rdRow L y)))
noncomputable def RdTl(i sh:Nat):Prop:= ∀(k c L:Nat) (y:Nat→Int) (G:RdG) (o n N:Int) (r h:Nat) (v:RdV) (Nx:Kt),rdTlA i sh k c L y G o n N r h v Nx=rdTlB i sh k c L y G o n N r h v Nx
noncomputable def RdTlL(i:Nat)(l:List Nat):Prop:= ∀(k c L:Nat) (y:Nat→Int) (G:RdG) (o n N:Int) (r h:Nat) (v:RdV) (Nx:Kt),l.map (fun sh=>rdTlA i sh k c L y G o n N r h v Nx)=l.map (fun sh=>rdTlB i sh k c L y G o n N r h v Nx)
theorem RdTlL.at{i:Nat}{l:List Nat}(hl:RdTlL i l){sh:Nat}(hx:sh∈l):RdTl i sh:=fun k c L y G o n N r h v Nx=>List.map_inj_left.1 (hl k c L y G o n N r h v Nx) sh hx
noncomputable def m40(x:Int):Int:=IntKind.wrap .i64 (x.tmod 40)
noncomputable def rdXiA(i ph:Nat)(b:Bool)(c L:Nat)(y:Nat→Int)(G:RdG)(o n N:Int)(r h:Nat)(s:Int)(Nx:Kt):Prop:=pieceO Tryz.prog toldV 1 rdLi [32] [false] rdInner (rdFi L c i s) (mkS (rdSt i ph b G o n N r h dustE (rdRow L y))) Nx
noncomputable def rdXiB(i ph:Nat)(b:Bool)(c L:Nat)(y:Nat→Int)(G:RdG)(o n N:Int)(r h:Nat)(s:Int)(Nx:Kt):Prop:=need (Nat.blt i L) (need (Nat.ble 0 (0+i)&&Nat.blt (0+i) L) (need (!(decide (s<m40 (y (0+i))))) (Nx (.exit 2) (rdFo L c i) (mkS (rdSt i ph b G o n N r h dustE (rdRow L y))))))
noncomputable def RdXi(i ph:Nat)(b:Bool):Prop:= ∀(c L:Nat) (y:Nat→Int) (G:RdG) (o n N:Int) (r h:Nat) (s:Int) (Nx:Kt),rdXiA i ph b c L y G o n N r h s Nx=rdXiB i ph b c L y G o n N r h s Nx
noncomputable def RdXiL(i:Nat)(b:Bool)(l:List Nat):Prop:= ∀(c L:Nat) (y:Nat→Int) (G:RdG) (o n N:Int) (r h:Nat) (s:Int) (Nx:Kt),l.map (fun ph=>rdXiA i ph b c L y G o n N r h s Nx)=l.map (fun ph=>rdXiB i ph b c L y G o n N r h s Nx)
theorem RdXiL.at{i:Nat}{b:Bool}{l:List Nat}(hl:RdXiL i b l){ph:Nat}(hx:ph∈l):RdXi i ph b:=fun c L y G o n N r h s Nx=>List.map_inj_left.1 (hl c L y G o n N r h s Nx) ph hx
end Go.Proofs.YtibobihgolfplaaGreatDoor.Ev
end
