/-
  annunciator/ctrl.Do, told at these places. (Printed by tools/mqgen.py.)
-/
import Derived.Test.YtibobihgolfplaaGreatDoorJ1
import Derived.Test.YtibobihgolfplaaGreatDoorJ2
import Derived.Test.YtibobihgolfplaaGreatDoorGg
import Derived.Test.YtibobihgolfplaaGreatDoorGh
import Derived.Test.YtibobihgolfplaaGreatDoorJ3
set_option maxRecDepth 1000000
set_option linter.unusedVariables false
namespace Go.Proofs.YtibobihgolfplaaGreatDoor.Ev
open Go
noncomputable section
def qTabRf0_0:List MQt:=[sE0,sE2]
theorem qTabRf0_0_ok: ∀e∈qTabRf0_0,MqOk Tryz.prog 17 e:=
 mq_cons follows toldRe8_ok sm0 (
 mq_consP (mq_pts follows toldRe8_ok (ts:=[sr2_0,sr2_1,sr2_2]) rfl rfl (fun t h=>by
  simp only[List.mem_cons,List.mem_nil_iff,or_false]at h
  rcases h with rfl|rfl|rfl
  ·exact sm2_0
  ·exact sm2_1
  ·exact sm2_2
  )) (
 fun _ h=>by cases h))
def qTabRf0_1:List MQt:=[sE1]
theorem qTabRf0_1_ok: ∀e∈qTabRf0_1,MqOk Tryz.prog 17 e:=
 mq_cons follows toldRe8_ok sm1 (
 fun _ h=>by cases h)
def qTabRf0_2:List MQt:=[sE3]
theorem qTabRf0_2_ok: ∀e∈qTabRf0_2,MqOk Tryz.prog 17 e:=
 mq_cons follows toldRe8_ok sm3 (
 fun _ h=>by cases h)
def qTabRf0_3:List MQt:=[sE4,sE16,sE28,sE34,sE49,sE65,sE85,sE86]
theorem qTabRf0_3_ok: ∀e∈qTabRf0_3,MqOk Tryz.prog 17 e:=
 mq_cons follows toldRe8_ok sm4 (
 mq_consP (mq_pts follows toldRe8_ok (ts:=[sr16_0]) rfl rfl (fun t h=>by
  simp only[List.mem_cons,List.mem_nil_iff,or_false]at h
  rcases h with rfl
  exact sm16_0
  )) (
 mq_consP (mq_pts follows toldRe8_ok (ts:=[sr28_0]) rfl rfl (fun t h=>by
  simp only[List.mem_cons,List.mem_nil_iff,or_false]at h
  rcases h with rfl
  exact sm28_0
  )) (
 mq_consP (mq_pts follows toldRe8_ok (ts:=[sr34_0]) rfl rfl (fun t h=>by
  simp only[List.mem_cons,List.mem_nil_iff,or_false]at h
  rcases h with rfl
  exact sm34_0
  )) (
 mq_cons follows toldRe8_ok sm49 (
 mq_consP (mq_pts follows toldRe8_ok (ts:=[sr65_0]) rfl rfl (fun t h=>by
  simp only[List.mem_cons,List.mem_nil_iff,or_false]at h
  rcases h with rfl
  exact sm65_0
  )) (
 mq_cons follows toldRe8_ok sm85 (
 mq_consP (mq_pts follows toldRe8_ok (ts:=[sr86_0]) rfl rfl (fun t h=>by
  simp only[List.mem_cons,List.mem_nil_iff,or_false]at h
  rcases h with rfl
  exact sm86_0
  )) (
 fun _ h=>by cases h))))))))
def qTabRf0_4:List MQt:=[sE5,sE17,sE29,sE35,sE87]
theorem qTabRf0_4_ok: ∀e∈qTabRf0_4,MqOk Tryz.prog 17 e:=
 mq_cons follows toldRe8_ok sm5 (
 mq_cons follows toldRe8_ok sm17 (
 mq_cons follows toldRe8_ok sm29 (
 mq_cons follows toldRe8_ok sm35 (
 mq_cons follows toldRe8_ok sm87 (
 fun _ h=>by cases h)))))
def qTabRf0_5:List MQt:=[sE6,sE18,sE30,sE36,sE39,sE43,sE47,sE53,sE55,sE59,sE62,sE64,sE74,sE78,sE88]
theorem qTabRf0_5_ok: ∀e∈qTabRf0_5,MqOk Tryz.prog 17 e:=
 mq_cons follows toldRe8_ok sm6 (
 mq_cons follows toldRe8_ok sm18 (
 mq_cons follows toldRe8_ok sm30 (
 mq_cons follows toldRe8_ok sm36 (
 mq_cons follows toldRe8_ok sm39 (
 mq_cons follows toldRe8_ok sm43 (
 mq_cons follows toldRe8_ok sm47 (
 mq_cons follows toldRe8_ok sm53 (
 mq_cons follows toldRe8_ok sm55 (
 mq_cons follows toldRe8_ok sm59 (
 mq_cons follows toldRe8_ok sm62 (
 mq_cons follows toldRe8_ok sm64 (
 mq_cons follows toldRe8_ok sm74 (
 mq_cons follows toldRe8_ok sm78 (
 mq_cons follows toldRe8_ok sm88 (
 fun _ h=>by cases h)))))))))))))))
def qTabRf0_6:List MQt:=[sE7,sE13,sE19,sE25,sE31,sE37,sE71,sE84]
theorem qTabRf0_6_ok: ∀e∈qTabRf0_6,MqOk Tryz.prog 17 e:=
 mq_consP (mq_pts follows toldRe8_ok (ts:=[sr7_0]) rfl rfl (fun t h=>by
  simp only[List.mem_cons,List.mem_nil_iff,or_false]at h
  rcases h with rfl
  exact sm7_0
  )) (
 mq_consP (mq_pts follows toldRe8_ok (ts:=[sr13_0]) rfl rfl (fun t h=>by
  simp only[List.mem_cons,List.mem_nil_iff,or_false]at h
  rcases h with rfl
  exact sm13_0
  )) (
 mq_consP (mq_pts follows toldRe8_ok (ts:=[sr19_0,sr19_1]) rfl rfl (fun t h=>by
  simp only[List.mem_cons,List.mem_nil_iff,or_false]at h
  rcases h with rfl|rfl
  ·exact sm19_0
  ·exact sm19_1
  )) (
 mq_consP (mq_pts follows toldRe8_ok (ts:=[sr25_0]) rfl rfl (fun t h=>by
  simp only[List.mem_cons,List.mem_nil_iff,or_false]at h
  rcases h with rfl
  exact sm25_0
  )) (
 mq_consP (mq_pts follows toldRe8_ok (ts:=[sr31_0]) rfl rfl (fun t h=>by
  simp only[List.mem_cons,List.mem_nil_iff,or_false]at h
  rcases h with rfl
  exact sm31_0
  )) (
 mq_consP (mq_pts follows toldRe8_ok (ts:=[sr37_0]) rfl rfl (fun t h=>by
  simp only[List.mem_cons,List.mem_nil_iff,or_false]at h
  rcases h with rfl
  exact sm37_0
  )) (
 mq_consP (mq_pts follows toldRe8_ok (ts:=[sr71_0]) rfl rfl (fun t h=>by
  simp only[List.mem_cons,List.mem_nil_iff,or_false]at h
  rcases h with rfl
  exact sm71_0
  )) (
 mq_cons follows toldRe8_ok sm84 (
 fun _ h=>by cases h))))))))
def qTabRf0_7:List MQt:=[sE8,sE14,sE20,sE26,sE32,sE38,sE72]
theorem qTabRf0_7_ok: ∀e∈qTabRf0_7,MqOk Tryz.prog 17 e:=
 mq_cons follows toldRe8_ok sm8 (
 mq_cons follows toldRe8_ok sm14 (
 mq_cons follows toldRe8_ok sm20 (
 mq_cons follows toldRe8_ok sm26 (
 mq_cons follows toldRe8_ok sm32 (
 mq_cons follows toldRe8_ok sm38 (
 mq_cons follows toldRe8_ok sm72 (
 fun _ h=>by cases h)))))))
def qTabRf0_8:List MQt:=[sE9,sE15,sE21,sE27,sE33,sE40,sE42,sE44,sE46,sE48,sE50,sE52,sE56,sE58,sE61,sE63,sE66,sE67,sE73,sE75,sE77]
theorem qTabRf0_8_ok: ∀e∈qTabRf0_8,MqOk Tryz.prog 17 e:=
 mq_cons follows toldRe8_ok sm9 (
 mq_cons follows toldRe8_ok sm15 (
 mq_cons follows toldRe8_ok sm21 (
 mq_cons follows toldRe8_ok sm27 (
 mq_cons follows toldRe8_ok sm33 (
 mq_cons follows toldRe8_ok sm40 (
 mq_cons follows toldRe8_ok sm42 (
 mq_cons follows toldRe8_ok sm44 (
 mq_cons follows toldRe8_ok sm46 (
 mq_cons follows toldRe8_ok sm48 (
 mq_cons follows toldRe8_ok sm50 (
 mq_cons follows toldRe8_ok sm52 (
 mq_cons follows toldRe8_ok sm56 (
 mq_cons follows toldRe8_ok sm58 (
 mq_cons follows toldRe8_ok sm61 (
 mq_cons follows toldRe8_ok sm63 (
 mq_cons follows toldRe8_ok sm66 (
 mq_cons follows toldRe8_ok sm67 (
 mq_cons follows toldRe8_ok sm73 (
 mq_cons follows toldRe8_ok sm75 (
 mq_cons follows toldRe8_ok sm77 (
 fun _ h=>by cases h)))))))))))))))))))))
def qTabRf0_9:List MQt:=[sE10,sE22,sE68,sE89,sE90]
theorem qTabRf0_9_ok: ∀e∈qTabRf0_9,MqOk Tryz.prog 17 e:=
 mq_consP (mq_pts follows toldRe8_ok (ts:=[sr10_0]) rfl rfl (fun t h=>by
  simp only[List.mem_cons,List.mem_nil_iff,or_false]at h
  rcases h with rfl
  exact sm10_0
  )) (
 mq_consP (mq_pts follows toldRe8_ok (ts:=[sr22_0]) rfl rfl (fun t h=>by
  simp only[List.mem_cons,List.mem_nil_iff,or_false]at h
  rcases h with rfl
  exact sm22_0
  )) (
 mq_consP (mq_pts follows toldRe8_ok (ts:=[sr68_0]) rfl rfl (fun t h=>by
  simp only[List.mem_cons,List.mem_nil_iff,or_false]at h
  rcases h with rfl
  exact sm68_0
  )) (
 mq_cons follows toldRe8_ok sm89 (
 mq_cons follows toldRe8_ok sm90 (
 fun _ h=>by cases h)))))
def qTabRf0_10:List MQt:=[sE11,sE23,sE69]
theorem qTabRf0_10_ok: ∀e∈qTabRf0_10,MqOk Tryz.prog 17 e:=
 mq_cons follows toldRe8_ok sm11 (
 mq_cons follows toldRe8_ok sm23 (
 mq_cons follows toldRe8_ok sm69 (
 fun _ h=>by cases h)))
def qTabRf0_11:List MQt:=[sE12,sE24,sE41,sE45,sE51,sE57,sE60,sE70,sE76]
theorem qTabRf0_11_ok: ∀e∈qTabRf0_11,MqOk Tryz.prog 17 e:=
 mq_cons follows toldRe8_ok sm12 (
 mq_cons follows toldRe8_ok sm24 (
 mq_cons follows toldRe8_ok sm41 (
 mq_cons follows toldRe8_ok sm45 (
 mq_cons follows toldRe8_ok sm51 (
 mq_cons follows toldRe8_ok sm57 (
 mq_cons follows toldRe8_ok sm60 (
 mq_cons follows toldRe8_ok sm70 (
 mq_cons follows toldRe8_ok sm76 (
 fun _ h=>by cases h)))))))))
def qTabRf0_12:List MQt:=[sE54,sE81,sE83]
theorem qTabRf0_12_ok: ∀e∈qTabRf0_12,MqOk Tryz.prog 17 e:=
 mq_cons follows toldRe8_ok sm54 (
 mq_cons follows toldRe8_ok sm81 (
 mq_cons follows toldRe8_ok sm83 (
 fun _ h=>by cases h)))
def qTabRf0_13:List MQt:=[sE79,sE82]
theorem qTabRf0_13_ok: ∀e∈qTabRf0_13,MqOk Tryz.prog 17 e:=
 mq_cons follows toldRe8_ok sm79 (
 mq_consP (mq_pts follows toldRe8_ok (ts:=[sr82_0,sr82_1,sr82_2]) rfl rfl (fun t h=>by
  simp only[List.mem_cons,List.mem_nil_iff,or_false]at h
  rcases h with rfl|rfl|rfl
  ·exact sm82_0
  ·exact sm82_1
  ·exact sm82_2
  )) (
 fun _ h=>by cases h))
def qTabRf0_14:List MQt:=[sE80]
theorem qTabRf0_14_ok: ∀e∈qTabRf0_14,MqOk Tryz.prog 17 e:=
 mq_cons follows toldRe8_ok sm80 (
 fun _ h=>by cases h)
def toldRf0Key:List Value→Tr AObj→Nat:=keyOf2 [4294967344,4296015936,4294967312,2415919152,2416967744,2415919120,71135395888,71136444480,71135395856,139854872624,139855921216,139854872592,6710886416,6710886448,6711935040]
def toldRf0:Told:=toldRe8.mqd Tryz.prog 17 [qTabRf0_0,qTabRf0_1,qTabRf0_2,qTabRf0_3,qTabRf0_4,qTabRf0_5,qTabRf0_6,qTabRf0_7,qTabRf0_8,qTabRf0_9,qTabRf0_10,qTabRf0_11,qTabRf0_12,qTabRf0_13,qTabRf0_14] toldRf0Key
theorem toldRf0_ok:ToldS Tryz.prog toldRf0:=Told.mqd_ok follows toldRe8_ok toldRf0Key (mq_tabs qTabRf0_0_ok (mq_tabs qTabRf0_1_ok (mq_tabs qTabRf0_2_ok (mq_tabs qTabRf0_3_ok (mq_tabs qTabRf0_4_ok (mq_tabs qTabRf0_5_ok (mq_tabs qTabRf0_6_ok (mq_tabs qTabRf0_7_ok (mq_tabs qTabRf0_8_ok (mq_tabs qTabRf0_9_ok (mq_tabs qTabRf0_10_ok (mq_tabs qTabRf0_11_ok (mq_tabs qTabRf0_12_ok (mq_tabs qTabRf0_13_ok (mq_tabs qTabRf0_14_ok (fun _ h=>by cases h))))))))))))))))
end
noncomputable def conC(P:Program)(C:Told)(g:FuncId):TCon where
 run args st:=funF P C 100000 90 g args st
 sym args st K:=match funF P C 100000 90 g args st with
  | .ok (r,st')=>K r st'
  |_=>False
 ok args st K h:=by
  split at h
  ·rename_i r st' he;exact⟨r,st',he,h⟩
  ·exact h.elim
noncomputable def Told.con(C D:Told)(P:Program)(g:FuncId):Told:=fun f=>cond (Nat.beq f g) (some (conC P D g)) (C f)
theorem Told.con_ok{P:Program}{C D:Told}(hm:P.follows .mixedOrders=true)(hC:ToldS P C)(hD:ToldS P D){g:FuncId}:ToldS P (C.con D P g):=by
 intro f c hc
 unfold Told.con at hc
 cases hb:Nat.beq f g with
 |true=>
  rw[hb]at hc
  have:=Nat.eq_of_beq_eq_true hb
  subst this
  cases hc
  intro args st r st' hwf hr
  simp only[conC]at hr
  rw[funF_eq]at hr
  exact evFunC_sound hm hD 100000 90 f args st r st' hwf hr
 |false=>rw[hb]at hc;exact hC f c hc
noncomputable def toldR0:Told:=toldRf0.asw Tryz.prog 8 [102] [false]
theorem toldR0_ok:ToldS Tryz.prog toldR0:=Told.asw_ok follows toldRf0_ok
noncomputable def toldR1:Told:=toldRf0.asw Tryz.prog 8 [102] [true]
theorem toldR1_ok:ToldS Tryz.prog toldR1:=Told.asw_ok follows toldRf0_ok
noncomputable def toldRc:Told:=toldRe8.con toldV Tryz.prog 17
theorem toldRc_ok:ToldS Tryz.prog toldRc:=Told.con_ok follows toldRe8_ok toldV_ok
noncomputable def toldC0:Told:=toldRc.asw Tryz.prog 8 [102] [false]
theorem toldC0_ok:ToldS Tryz.prog toldC0:=Told.asw_ok follows toldRc_ok
theorem nilQ_ok{P:Program}{g:FuncId}: ∀e∈([]:List MQt),MqOk P g e:=fun _ h=>by cases h
noncomputable def toldRg:Told:=toldRe8.mqd Tryz.prog 17 [[],qTabRf0_1,qTabRf0_2,[],qTabRf0_4,qTabRf0_5,[],qTabRf0_7,qTabRf0_8,[],qTabRf0_10,qTabRf0_11,qTabRf0_12,[],qTabRf0_14] toldRf0Key
theorem toldRg_ok:ToldS Tryz.prog toldRg:=Told.mqd_ok follows toldRe8_ok toldRf0Key (mq_tabs nilQ_ok (mq_tabs qTabRf0_1_ok (mq_tabs qTabRf0_2_ok (mq_tabs nilQ_ok (mq_tabs qTabRf0_4_ok (mq_tabs qTabRf0_5_ok (mq_tabs nilQ_ok (mq_tabs qTabRf0_7_ok (mq_tabs qTabRf0_8_ok (mq_tabs nilQ_ok (mq_tabs qTabRf0_10_ok (mq_tabs qTabRf0_11_ok (mq_tabs qTabRf0_12_ok (mq_tabs nilQ_ok (mq_tabs qTabRf0_14_ok (fun _ h=>by cases h))))))))))))))))
noncomputable def toldE0:Told:=toldRg.asw Tryz.prog 8 [102] [false]
theorem toldE0_ok:ToldS Tryz.prog toldE0:=Told.asw_ok follows toldRg_ok
noncomputable def rdCon(k i ph:Nat)(b:Bool):Bool:=match k with
 |0=>(match i with
  |0=>false
  |_+1=>(match ph with
   |0=> !b
   |1=>b
   |_=>false))
 |_+1=>false
noncomputable def toldR(k i ph:Nat)(b:Bool):Told:=cond (rdCon k i ph b) toldC0 (match ph with
 |15=>toldR1
 |_=>toldR0)
theorem toldR_ok(k i ph:Nat)(b:Bool):ToldS Tryz.prog (toldR k i ph b):=by
 unfold toldR
 cases rdCon k i ph b with
 |true=>exact toldC0_ok
 |false=>
  simp only[cond_false]
  split
  ·exact toldR1_ok
  ·exact toldR0_ok
noncomputable def ndH(h:Nat)(K:Prop):Prop:=need (Nat.ble (h+1) 1000000) (need (Nat.ble 0 0&&Nat.ble (0+h) h) K)
noncomputable def rdNd(ph:Nat)(N:Int)(h:Nat)(K:Prop):Prop:=match ph with
 |0=>ndH h K
 |15=>need (bne (incI N) N) (ndH h K)
 |16=>ndH h (need (!(bne N N)) K)
 |_=>need (!(bne N N)) K
noncomputable def rdInA(k i ph:Nat)(b:Bool)(o n N:Int)(r:Nat)(c L:Nat)(y:Nat→Int)(G:RdG)(h:Nat)(s:Int)(Nx:Kt):Prop:=pieceO Tryz.prog (toldR k i ph b) 1 rdLi [32] [true] rdInner (rdFi L c i s) (mkS (rdSt i ph b G o n N r h dustE (rdRow L y))) Nx
noncomputable def rdInB(k i ph:Nat)(b:Bool)(o n N:Int)(r:Nat)(c L:Nat)(y:Nat→Int)(G:RdG)(h:Nat)(s:Int)(Nx:Kt):Prop:=need (Nat.blt i L) (need (Nat.ble 0 (0+i)&&Nat.blt (0+i) L) (need (decide (s<m40 (y (0+i)))) (rdNd ph N h (Nx .normal (rdFi L c i (IntKind.wrap .i64 (s+1))) (mkS (rdSt i (nxP ph) true G (nxO ph o) (nxN ph n) (nxI ph N) (nxR ph r) (nxH ph h) (nxE ph h dustE) (rdRow L y)))))))
noncomputable def RdIn(k i ph:Nat)(b:Bool)(o n N:Int)(r:Nat):Prop:= ∀(c L:Nat) (y:Nat→Int) (G:RdG) (h:Nat) (s:Int) (Nx:Kt),rdInA k i ph b o n N r c L y G h s Nx=rdInB k i ph b o n N r c L y G h s Nx
noncomputable def RdInL(k i:Nat)(b:Bool)(o n N:Int)(r:Nat)(l:List Nat):Prop:= ∀(c L:Nat) (y:Nat→Int) (G:RdG) (h:Nat) (s:Int) (Nx:Kt),l.map (fun ph=>rdInA k i ph b o n N r c L y G h s Nx)=l.map (fun ph=>rdInB k i ph b o n N r c L y G h s Nx)
theorem RdInL.at{k i:Nat}{b:Bool}{o n N:Int}{r:Nat}{l:List Nat}(hl:RdInL k i b o n N r l){ph:Nat}(hx:ph∈l):RdIn k i ph b o n N r:=fun c L y G h s Nx=>List.map_inj_left.1 (hl c L y G h s Nx) ph hx
noncomputable def rdCoq(k i ph:Nat)(b:Bool):Bool:=match k with
 |0=>cond (Nat.beq ph 13) true (rdCon 0 i ph b)
 |_+1=>false
noncomputable def toldQ(k i ph:Nat)(b:Bool):Told:=cond (rdCoq k i ph b) toldC0 toldE0
theorem toldQ_ok(k i ph:Nat)(b:Bool):ToldS Tryz.prog (toldQ k i ph b):=by
 unfold toldQ
 cases rdCoq k i ph b with
 |true=>exact toldC0_ok
 |false=>exact toldE0_ok
noncomputable def ndN(N:Int)(K:Prop):Prop:=need (!(bne N N)) K
noncomputable def rdAsA(k i ph:Nat)(b:Bool)(o n N:Int)(r:Nat)(c L:Nat)(y:Nat→Int)(G:RdG)(h:Nat)(Nx:Kt):Prop:=pieceL Tryz.prog (toldQ k i ph b) 1 rdLs [] [] rdAsk (rdFo L c i) (mkS (rdSt i ph b G o n N r h dustE (rdRow L y))) Nx
noncomputable def rdAsB(k i ph:Nat)(b:Bool)(o n N:Int)(r:Nat)(c L:Nat)(y:Nat→Int)(G:RdG)(h:Nat)(Nx:Kt):Prop:=ndH h (ndN N (ndN N (Nx .normal (rdFs L c i (rdEnd i (i+1) 3 (rdTrim (rdM ph o n r)))) (mkS (rdSv i (rdTrim (rdM ph o n r)) G o n N r (h+1) (dstE 1 h dustE) (rdRow L y))))))
noncomputable def RdAs(k i ph:Nat)(b:Bool)(o n N:Int)(r:Nat):Prop:= ∀(c L:Nat) (y:Nat→Int) (G:RdG) (h:Nat) (Nx:Kt),rdAsA k i ph b o n N r c L y G h Nx=rdAsB k i ph b o n N r c L y G h Nx
noncomputable def RdAsL(k i:Nat)(b:Bool)(o n N:Int)(r:Nat)(l:List Nat):Prop:= ∀(c L:Nat) (y:Nat→Int) (G:RdG) (h:Nat) (Nx:Kt),l.map (fun ph=>rdAsA k i ph b o n N r c L y G h Nx)=l.map (fun ph=>rdAsB k i ph b o n N r c L y G h Nx)
theorem RdAsL.at{k i:Nat}{b:Bool}{o n N:Int}{r:Nat}{l:List Nat}(hl:RdAsL k i b o n N r l){ph:Nat}(hx:ph∈l):RdAs k i ph b o n N r:=fun c L y G h Nx=>List.map_inj_left.1 (hl c L y G h Nx) ph hx
noncomputable def rdSeA(i sh k:Nat)(c L:Nat)(y:Nat→Int)(G:RdG)(h:Nat)(v:RdV)(Nx:Kt):Prop:=pieceO Tryz.prog toldE0 1 rdLx [] [] rdSend (rdFs L c i (rdEnd i (i+1) 3 (rdShM sh k v))) (mkS (rdSv i (rdShM sh k v) G (oB k) (.ofNat k) (.ofNat k) (rB k) h dustE (rdRow L y))) Nx
noncomputable def rdSeB(i sh k:Nat)(c L:Nat)(y:Nat→Int)(G:RdG)(h:Nat)(v:RdV)(Nx:Kt):Prop:=ndN (.ofNat k) (ndH h (Nx .normal (rdFo L c i) (mkS (rdHeap (i+1) (i+1) 2 (rdShM sh k v) (G.put i (oB k) (.ofNat k) (rB k)) (oB k) (.ofNat k) (.ofNat k) (rB k) (h+1) (dstE 1 h dustE) (rdRow L y) []))))
noncomputable def RdSe(i sh k:Nat):Prop:= ∀(c L:Nat) (y:Nat→Int) (G:RdG) (h:Nat) (v:RdV) (Nx:Kt),rdSeA i sh k c L y G h v Nx=rdSeB i sh k c L y G h v Nx
noncomputable def RdSeL(i sh:Nat)(l:List Nat):Prop:= ∀(c L:Nat) (y:Nat→Int) (G:RdG) (h:Nat) (v:RdV) (Nx:Kt),l.map (fun k=>rdSeA i sh k c L y G h v Nx)=l.map (fun k=>rdSeB i sh k c L y G h v Nx)
theorem RdSeL.at{i sh:Nat}{l:List Nat}(hl:RdSeL i sh l){k:Nat}(hx:k∈l):RdSe i sh k:=fun c L y G h v Nx=>List.map_inj_left.1 (hl c L y G h v Nx) k hx
end Go.Proofs.YtibobihgolfplaaGreatDoor.Ev
