/-
  annunciator/annunciatorlaw25.Scan, told at these places. (Printed by tools/mqgen.py.)
-/
import Derived.Test.YtibobihgolfplaaGreatDoorJ0
import Derived.Test.YtibobihgolfplaaGreatDoorJ9
import Derived.Test.YtibobihgolfplaaGreatDoorHM
import Derived.Test.YtibobihgolfplaaGreatDoorJ1
import Derived.Test.YtibobihgolfplaaGreatDoorJ2
import Derived.Test.YtibobihgolfplaaGreatDoorJ3
import Derived.Test.YtibobihgolfplaaGreatDoorJ4
import Derived.Test.YtibobihgolfplaaGreatDoorGh
set_option maxRecDepth 1000000
set_option linter.unusedVariables false
namespace Go.Proofs.YtibobihgolfplaaGreatDoor.Ev
open Go
noncomputable section
def qTabBz0_0:List MQt:=[wE0]
theorem qTabBz0_0_ok: ∀e∈qTabBz0_0,MqOk Tryz.prog 11 e:=
 mq_cons follows toldBy2_ok wm0 (
 fun _ h=>by cases h)
def qTabBz0_1:List MQt:=[wE1]
theorem qTabBz0_1_ok: ∀e∈qTabBz0_1,MqOk Tryz.prog 11 e:=
 mq_cons follows toldBy2_ok wm1 (
 fun _ h=>by cases h)
def qTabBz0_2:List MQt:=[wE2]
theorem qTabBz0_2_ok: ∀e∈qTabBz0_2,MqOk Tryz.prog 11 e:=
 mq_cons follows toldBy2_ok wm2 (
 fun _ h=>by cases h)
def qTabBz0_3:List MQt:=[wE3]
theorem qTabBz0_3_ok: ∀e∈qTabBz0_3,MqOk Tryz.prog 11 e:=
 mq_cons follows toldBy2_ok wm3 (
 fun _ h=>by cases h)
def qTabBz0_4:List MQt:=[wE4]
theorem qTabBz0_4_ok: ∀e∈qTabBz0_4,MqOk Tryz.prog 11 e:=
 mq_cons follows toldBy2_ok wm4 (
 fun _ h=>by cases h)
def qTabBz0_5:List MQt:=[wE5]
theorem qTabBz0_5_ok: ∀e∈qTabBz0_5,MqOk Tryz.prog 11 e:=
 mq_cons follows toldBy2_ok wm5 (
 fun _ h=>by cases h)
def qTabBz0_6:List MQt:=[wE6]
theorem qTabBz0_6_ok: ∀e∈qTabBz0_6,MqOk Tryz.prog 11 e:=
 mq_cons follows toldBy2_ok wm6 (
 fun _ h=>by cases h)
def qTabBz0_7:List MQt:=[wE7]
theorem qTabBz0_7_ok: ∀e∈qTabBz0_7,MqOk Tryz.prog 11 e:=
 mq_cons follows toldBy2_ok wm7 (
 fun _ h=>by cases h)
def qTabBz0_8:List MQt:=[wE8]
theorem qTabBz0_8_ok: ∀e∈qTabBz0_8,MqOk Tryz.prog 11 e:=
 mq_cons follows toldBy2_ok wm8 (
 fun _ h=>by cases h)
def qTabBz0_9:List MQt:=[wE9]
theorem qTabBz0_9_ok: ∀e∈qTabBz0_9,MqOk Tryz.prog 11 e:=
 mq_cons follows toldBy2_ok wm9 (
 fun _ h=>by cases h)
def qTabBz0_10:List MQt:=[wE10]
theorem qTabBz0_10_ok: ∀e∈qTabBz0_10,MqOk Tryz.prog 11 e:=
 mq_cons follows toldBy2_ok wm10 (
 fun _ h=>by cases h)
def qTabBz0_11:List MQt:=[wE11]
theorem qTabBz0_11_ok: ∀e∈qTabBz0_11,MqOk Tryz.prog 11 e:=
 mq_cons follows toldBy2_ok wm11 (
 fun _ h=>by cases h)
def qTabBz0_12:List MQt:=[wE12]
theorem qTabBz0_12_ok: ∀e∈qTabBz0_12,MqOk Tryz.prog 11 e:=
 mq_cons follows toldBy2_ok wm12 (
 fun _ h=>by cases h)
def qTabBz0_13:List MQt:=[wE13]
theorem qTabBz0_13_ok: ∀e∈qTabBz0_13,MqOk Tryz.prog 11 e:=
 mq_cons follows toldBy2_ok wm13 (
 fun _ h=>by cases h)
def qTabBz0_14:List MQt:=[wE14]
theorem qTabBz0_14_ok: ∀e∈qTabBz0_14,MqOk Tryz.prog 11 e:=
 mq_cons follows toldBy2_ok wm14 (
 fun _ h=>by cases h)
def toldBz0Key:List Value→Tr AObj→Nat:=keyOf1 [16842752,9502720,9437440,16908288,9568256,9437441,16973824,9633792,9437697,16973825,9633793,9437698,16974081,9634049,9437954]
def toldBz0:Told:=toldBy8.mq 11 [qTabBz0_0,qTabBz0_1,qTabBz0_2,qTabBz0_3,qTabBz0_4,qTabBz0_5,qTabBz0_6,qTabBz0_7,qTabBz0_8,qTabBz0_9,qTabBz0_10,qTabBz0_11,qTabBz0_12,qTabBz0_13,qTabBz0_14] toldBz0Key
theorem toldBz0_ok:ToldS Tryz.prog toldBz0:=Told.mq_ok toldBy8_ok toldBz0Key (mq_tabs qTabBz0_0_ok (mq_tabs qTabBz0_1_ok (mq_tabs qTabBz0_2_ok (mq_tabs qTabBz0_3_ok (mq_tabs qTabBz0_4_ok (mq_tabs qTabBz0_5_ok (mq_tabs qTabBz0_6_ok (mq_tabs qTabBz0_7_ok (mq_tabs qTabBz0_8_ok (mq_tabs qTabBz0_9_ok (mq_tabs qTabBz0_10_ok (mq_tabs qTabBz0_11_ok (mq_tabs qTabBz0_12_ok (mq_tabs qTabBz0_13_ok (mq_tabs qTabBz0_14_ok (fun _ h=>by cases h))))))))))))))))
end
noncomputable section
def qTabBz1_0:List MQt:=[wE15]
theorem qTabBz1_0_ok: ∀e∈qTabBz1_0,MqOk Tryz.prog 17 e:=
 mq_cons follows toldBy8_ok wm15 (
 fun _ h=>by cases h)
def qTabBz1_1:List MQt:=[wE16]
theorem qTabBz1_1_ok: ∀e∈qTabBz1_1,MqOk Tryz.prog 17 e:=
 mq_cons follows toldBy8_ok wm16 (
 fun _ h=>by cases h)
def qTabBz1_2:List MQt:=[wE17,wE38]
theorem qTabBz1_2_ok: ∀e∈qTabBz1_2,MqOk Tryz.prog 17 e:=
 mq_consP (mq_pts follows toldBy8_ok (ts:=[wr17_0,wr17_1,wr17_2]) rfl rfl (fun t h=>by
  simp only[List.mem_cons,List.mem_nil_iff,or_false]at h
  rcases h with rfl|rfl|rfl
  ·exact wm17_0
  ·exact wm17_1
  ·exact wm17_2
  )) (
 mq_consP (mq_pts follows toldBy8_ok (ts:=[wr38_0,wr38_1,wr38_2,wr38_3,wr38_4]) rfl rfl (fun t h=>by
  simp only[List.mem_cons,List.mem_nil_iff,or_false]at h
  rcases h with rfl|rfl|rfl|rfl|rfl
  ·exact wm38_0
  ·exact wm38_1
  ·exact wm38_2
  ·exact wm38_3
  ·exact wm38_4
  )) (
 fun _ h=>by cases h))
def qTabBz1_3:List MQt:=[wE18,wE20,wE28,wE39]
theorem qTabBz1_3_ok: ∀e∈qTabBz1_3,MqOk Tryz.prog 17 e:=
 mq_cons follows toldBy8_ok wm18 (
 mq_cons follows toldBy8_ok wm20 (
 mq_cons follows toldBy8_ok wm28 (
 mq_cons follows toldBy8_ok wm39 (
 fun _ h=>by cases h))))
def qTabBz1_4:List MQt:=[wE19,wE27,wE29]
theorem qTabBz1_4_ok: ∀e∈qTabBz1_4,MqOk Tryz.prog 17 e:=
 mq_cons follows toldBy8_ok wm19 (
 mq_cons follows toldBy8_ok wm27 (
 mq_cons follows toldBy8_ok wm29 (
 fun _ h=>by cases h)))
def qTabBz1_5:List MQt:=[wE21,wE30]
theorem qTabBz1_5_ok: ∀e∈qTabBz1_5,MqOk Tryz.prog 17 e:=
 mq_consP (mq_pts follows toldBy8_ok (ts:=[wr21_0,wr21_1,wr21_2]) rfl rfl (fun t h=>by
  simp only[List.mem_cons,List.mem_nil_iff,or_false]at h
  rcases h with rfl|rfl|rfl
  ·exact wm21_0
  ·exact wm21_1
  ·exact wm21_2
  )) (
 mq_consP (mq_pts follows toldBy8_ok (ts:=[wr30_0,wr30_1,wr30_2,wr30_3,wr30_4,wr30_5,wr30_6]) rfl rfl (fun t h=>by
  simp only[List.mem_cons,List.mem_nil_iff,or_false]at h
  rcases h with rfl|rfl|rfl|rfl|rfl|rfl|rfl
  ·exact wm30_0
  ·exact wm30_1
  ·exact wm30_2
  ·exact wm30_3
  ·exact wm30_4
  ·exact wm30_5
  ·exact wm30_6
  )) (
 fun _ h=>by cases h))
def qTabBz1_6:List MQt:=[wE22,wE31]
theorem qTabBz1_6_ok: ∀e∈qTabBz1_6,MqOk Tryz.prog 17 e:=
 mq_cons follows toldBy8_ok wm22 (
 mq_cons follows toldBy8_ok wm31 (
 fun _ h=>by cases h))
def qTabBz1_7:List MQt:=[wE23]
theorem qTabBz1_7_ok: ∀e∈qTabBz1_7,MqOk Tryz.prog 17 e:=
 mq_cons follows toldBy8_ok wm23 (
 fun _ h=>by cases h)
def qTabBz1_8:List MQt:=[wE24]
theorem qTabBz1_8_ok: ∀e∈qTabBz1_8,MqOk Tryz.prog 17 e:=
 mq_cons follows toldBy8_ok wm24 (
 fun _ h=>by cases h)
def qTabBz1_9:List MQt:=[wE25,wE46]
theorem qTabBz1_9_ok: ∀e∈qTabBz1_9,MqOk Tryz.prog 17 e:=
 mq_consP (mq_pts follows toldBy8_ok (ts:=[wr25_0,wr25_1,wr25_2]) rfl rfl (fun t h=>by
  simp only[List.mem_cons,List.mem_nil_iff,or_false]at h
  rcases h with rfl|rfl|rfl
  ·exact wm25_0
  ·exact wm25_1
  ·exact wm25_2
  )) (
 mq_consP (mq_pts follows toldBy8_ok (ts:=[wr46_0,wr46_1,wr46_2]) rfl rfl (fun t h=>by
  simp only[List.mem_cons,List.mem_nil_iff,or_false]at h
  rcases h with rfl|rfl|rfl
  ·exact wm46_0
  ·exact wm46_1
  ·exact wm46_2
  )) (
 fun _ h=>by cases h))
def qTabBz1_10:List MQt:=[wE26]
theorem qTabBz1_10_ok: ∀e∈qTabBz1_10,MqOk Tryz.prog 17 e:=
 mq_consP (mq_pts follows toldBy8_ok (ts:=[wr26_0,wr26_1,wr26_2,wr26_3]) rfl rfl (fun t h=>by
  simp only[List.mem_cons,List.mem_nil_iff,or_false]at h
  rcases h with rfl|rfl|rfl|rfl
  ·exact wm26_0
  ·exact wm26_1
  ·exact wm26_2
  ·exact wm26_3
  )) (
 fun _ h=>by cases h)
def qTabBz1_11:List MQt:=[wE32]
theorem qTabBz1_11_ok: ∀e∈qTabBz1_11,MqOk Tryz.prog 17 e:=
 mq_consP (mq_pts follows toldBy8_ok (ts:=[wr32_0,wr32_1,wr32_2,wr32_3,wr32_4,wr32_5,wr32_6]) rfl rfl (fun t h=>by
  simp only[List.mem_cons,List.mem_nil_iff,or_false]at h
  rcases h with rfl|rfl|rfl|rfl|rfl|rfl|rfl
  ·exact wm32_0
  ·exact wm32_1
  ·exact wm32_2
  ·exact wm32_3
  ·exact wm32_4
  ·exact wm32_5
  ·exact wm32_6
  )) (
 fun _ h=>by cases h)
def qTabBz1_12:List MQt:=[wE33]
theorem qTabBz1_12_ok: ∀e∈qTabBz1_12,MqOk Tryz.prog 17 e:=
 mq_cons follows toldBy8_ok wm33 (
 fun _ h=>by cases h)
def qTabBz1_13:List MQt:=[wE34]
theorem qTabBz1_13_ok: ∀e∈qTabBz1_13,MqOk Tryz.prog 17 e:=
 mq_cons follows toldBy8_ok wm34 (
 fun _ h=>by cases h)
def qTabBz1_14:List MQt:=[wE35]
theorem qTabBz1_14_ok: ∀e∈qTabBz1_14,MqOk Tryz.prog 17 e:=
 mq_cons follows toldBy8_ok wm35 (
 fun _ h=>by cases h)
def qTabBz1_15:List MQt:=[wE36,wE53]
theorem qTabBz1_15_ok: ∀e∈qTabBz1_15,MqOk Tryz.prog 17 e:=
 mq_consP (mq_pts follows toldBy8_ok (ts:=[wr36_0,wr36_1,wr36_2]) rfl rfl (fun t h=>by
  simp only[List.mem_cons,List.mem_nil_iff,or_false]at h
  rcases h with rfl|rfl|rfl
  ·exact wm36_0
  ·exact wm36_1
  ·exact wm36_2
  )) (
 mq_consP (mq_pts follows toldBy8_ok (ts:=[wr53_0,wr53_1,wr53_2]) rfl rfl (fun t h=>by
  simp only[List.mem_cons,List.mem_nil_iff,or_false]at h
  rcases h with rfl|rfl|rfl
  ·exact wm53_0
  ·exact wm53_1
  ·exact wm53_2
  )) (
 fun _ h=>by cases h))
def qTabBz1_16:List MQt:=[wE37]
theorem qTabBz1_16_ok: ∀e∈qTabBz1_16,MqOk Tryz.prog 17 e:=
 mq_consP (mq_pts follows toldBy8_ok (ts:=[wr37_0,wr37_1,wr37_2,wr37_3,wr37_4]) rfl rfl (fun t h=>by
  simp only[List.mem_cons,List.mem_nil_iff,or_false]at h
  rcases h with rfl|rfl|rfl|rfl|rfl
  ·exact wm37_0
  ·exact wm37_1
  ·exact wm37_2
  ·exact wm37_3
  ·exact wm37_4
  )) (
 fun _ h=>by cases h)
def qTabBz1_17:List MQt:=[wE40]
theorem qTabBz1_17_ok: ∀e∈qTabBz1_17,MqOk Tryz.prog 17 e:=
 mq_consP (mq_pts follows toldBy8_ok (ts:=[wr40_0,wr40_1,wr40_2,wr40_3,wr40_4,wr40_5]) rfl rfl (fun t h=>by
  simp only[List.mem_cons,List.mem_nil_iff,or_false]at h
  rcases h with rfl|rfl|rfl|rfl|rfl|rfl
  ·exact wm40_0
  ·exact wm40_1
  ·exact wm40_2
  ·exact wm40_3
  ·exact wm40_4
  ·exact wm40_5
  )) (
 fun _ h=>by cases h)
def qTabBz1_18:List MQt:=[wE41]
theorem qTabBz1_18_ok: ∀e∈qTabBz1_18,MqOk Tryz.prog 17 e:=
 mq_cons follows toldBy8_ok wm41 (
 fun _ h=>by cases h)
def qTabBz1_19:List MQt:=[wE42]
theorem qTabBz1_19_ok: ∀e∈qTabBz1_19,MqOk Tryz.prog 17 e:=
 mq_cons follows toldBy8_ok wm42 (
 fun _ h=>by cases h)
def qTabBz1_20:List MQt:=[wE43]
theorem qTabBz1_20_ok: ∀e∈qTabBz1_20,MqOk Tryz.prog 17 e:=
 mq_cons follows toldBy8_ok wm43 (
 fun _ h=>by cases h)
def qTabBz1_21:List MQt:=[wE44]
theorem qTabBz1_21_ok: ∀e∈qTabBz1_21,MqOk Tryz.prog 17 e:=
 mq_consP (mq_pts follows toldBy8_ok (ts:=[wr44_0,wr44_1,wr44_2]) rfl rfl (fun t h=>by
  simp only[List.mem_cons,List.mem_nil_iff,or_false]at h
  rcases h with rfl|rfl|rfl
  ·exact wm44_0
  ·exact wm44_1
  ·exact wm44_2
  )) (
 fun _ h=>by cases h)
def qTabBz1_22:List MQt:=[wE45]
theorem qTabBz1_22_ok: ∀e∈qTabBz1_22,MqOk Tryz.prog 17 e:=
 mq_consP (mq_pts follows toldBy8_ok (ts:=[wr45_0,wr45_1,wr45_2]) rfl rfl (fun t h=>by
  simp only[List.mem_cons,List.mem_nil_iff,or_false]at h
  rcases h with rfl|rfl|rfl
  ·exact wm45_0
  ·exact wm45_1
  ·exact wm45_2
  )) (
 fun _ h=>by cases h)
def qTabBz1_23:List MQt:=[wE47]
theorem qTabBz1_23_ok: ∀e∈qTabBz1_23,MqOk Tryz.prog 17 e:=
 mq_consP (mq_pts follows toldBy8_ok (ts:=[wr47_0,wr47_1,wr47_2,wr47_3,wr47_4]) rfl rfl (fun t h=>by
  simp only[List.mem_cons,List.mem_nil_iff,or_false]at h
  rcases h with rfl|rfl|rfl|rfl|rfl
  ·exact wm47_0
  ·exact wm47_1
  ·exact wm47_2
  ·exact wm47_3
  ·exact wm47_4
  )) (
 fun _ h=>by cases h)
def qTabBz1_24:List MQt:=[wE48]
theorem qTabBz1_24_ok: ∀e∈qTabBz1_24,MqOk Tryz.prog 17 e:=
 mq_cons follows toldBy8_ok wm48 (
 fun _ h=>by cases h)
def qTabBz1_25:List MQt:=[wE49]
theorem qTabBz1_25_ok: ∀e∈qTabBz1_25,MqOk Tryz.prog 17 e:=
 mq_cons follows toldBy8_ok wm49 (
 fun _ h=>by cases h)
def qTabBz1_26:List MQt:=[wE50]
theorem qTabBz1_26_ok: ∀e∈qTabBz1_26,MqOk Tryz.prog 17 e:=
 mq_cons follows toldBy8_ok wm50 (
 fun _ h=>by cases h)
def qTabBz1_27:List MQt:=[wE51]
theorem qTabBz1_27_ok: ∀e∈qTabBz1_27,MqOk Tryz.prog 17 e:=
 mq_consP (mq_pts follows toldBy8_ok (ts:=[wr51_0,wr51_1,wr51_2]) rfl rfl (fun t h=>by
  simp only[List.mem_cons,List.mem_nil_iff,or_false]at h
  rcases h with rfl|rfl|rfl
  ·exact wm51_0
  ·exact wm51_1
  ·exact wm51_2
  )) (
 fun _ h=>by cases h)
def qTabBz1_28:List MQt:=[wE52]
theorem qTabBz1_28_ok: ∀e∈qTabBz1_28,MqOk Tryz.prog 17 e:=
 mq_consP (mq_pts follows toldBy8_ok (ts:=[wr52_0,wr52_1,wr52_2]) rfl rfl (fun t h=>by
  simp only[List.mem_cons,List.mem_nil_iff,or_false]at h
  rcases h with rfl|rfl|rfl
  ·exact wm52_0
  ·exact wm52_1
  ·exact wm52_2
  )) (
 fun _ h=>by cases h)
def qTabBz1_29:List MQt:=[wE54]
theorem qTabBz1_29_ok: ∀e∈qTabBz1_29,MqOk Tryz.prog 17 e:=
 mq_consP (mq_pts follows toldBy8_ok (ts:=[wr54_0,wr54_1,wr54_2]) rfl rfl (fun t h=>by
  simp only[List.mem_cons,List.mem_nil_iff,or_false]at h
  rcases h with rfl|rfl|rfl
  ·exact wm54_0
  ·exact wm54_1
  ·exact wm54_2
  )) (
 fun _ h=>by cases h)
def qTabBz1_30:List MQt:=[wE55]
theorem qTabBz1_30_ok: ∀e∈qTabBz1_30,MqOk Tryz.prog 17 e:=
 mq_cons follows toldBy8_ok wm55 (
 fun _ h=>by cases h)
def toldBz1Key:List Value→Tr AObj→Nat:=keyOf2 [4294967344,4296015936,2415984720,2415919185,2415919184,2415919152,2416967744,4311744561,4311748673,2415984976,2415919441,2432696369,2432700481,4328521776,4329570368,2416050512,2415984977,2449473584,2450522176,4345298993,4345303105,2416050768,2415985233,2466250801,2466254913,4345299248,4346347840,2416116304,2416050769,2466251056,2467299648]
def toldBz1:Told:=toldBz0.mq 17 [qTabBz1_0,qTabBz1_1,qTabBz1_2,qTabBz1_3,qTabBz1_4,qTabBz1_5,qTabBz1_6,qTabBz1_7,qTabBz1_8,qTabBz1_9,qTabBz1_10,qTabBz1_11,qTabBz1_12,qTabBz1_13,qTabBz1_14,qTabBz1_15,qTabBz1_16,qTabBz1_17,qTabBz1_18,qTabBz1_19,qTabBz1_20,qTabBz1_21,qTabBz1_22,qTabBz1_23,qTabBz1_24,qTabBz1_25,qTabBz1_26,qTabBz1_27,qTabBz1_28,qTabBz1_29,qTabBz1_30] toldBz1Key
theorem toldBz1_ok:ToldS Tryz.prog toldBz1:=Told.mq_ok toldBz0_ok toldBz1Key (mq_tabs qTabBz1_0_ok (mq_tabs qTabBz1_1_ok (mq_tabs qTabBz1_2_ok (mq_tabs qTabBz1_3_ok (mq_tabs qTabBz1_4_ok (mq_tabs qTabBz1_5_ok (mq_tabs qTabBz1_6_ok (mq_tabs qTabBz1_7_ok (mq_tabs qTabBz1_8_ok (mq_tabs qTabBz1_9_ok (mq_tabs qTabBz1_10_ok (mq_tabs qTabBz1_11_ok (mq_tabs qTabBz1_12_ok (mq_tabs qTabBz1_13_ok (mq_tabs qTabBz1_14_ok (mq_tabs qTabBz1_15_ok (mq_tabs qTabBz1_16_ok (mq_tabs qTabBz1_17_ok (mq_tabs qTabBz1_18_ok (mq_tabs qTabBz1_19_ok (mq_tabs qTabBz1_20_ok (mq_tabs qTabBz1_21_ok (mq_tabs qTabBz1_22_ok (mq_tabs qTabBz1_23_ok (mq_tabs qTabBz1_24_ok (mq_tabs qTabBz1_25_ok (mq_tabs qTabBz1_26_ok (mq_tabs qTabBz1_27_ok (mq_tabs qTabBz1_28_ok (mq_tabs qTabBz1_29_ok (mq_tabs qTabBz1_30_ok (fun _ h=>by cases h))))))))))))))))))))))))))))))))
end
noncomputable def toldK:Told:=toldBz1.asw Tryz.prog 8 [102] [false]
theorem toldK_ok:ToldS Tryz.prog toldK:=Told.asw_ok follows toldBz1_ok
end Go.Proofs.YtibobihgolfplaaGreatDoor.Ev
