/-
  annunciator/sesn.frame, told at these places. (Printed by tools/mqgen.py.)
-/
import Derived.Test.YtibobihgolfplaaGreatDoorP1
import Derived.Test.YtibobihgolfplaaGreatDoorP2
import Derived.Test.YtibobihgolfplaaGreatDoorH1
import Derived.Test.YtibobihgolfplaaGreatDoorQ1
import Derived.Test.YtibobihgolfplaaGreatDoorQ2
import Derived.Test.YtibobihgolfplaaGreatDoorQ3
import Derived.Test.YtibobihgolfplaaGreatDoorQ4
set_option maxRecDepth 1000000
set_option linter.unusedVariables false
namespace Go.Proofs.YtibobihgolfplaaGreatDoor.Ev
open Go
noncomputable section
def qTabRe4_0:List MQt:=[rE58]
theorem qTabRe4_0_ok: ∀e∈qTabRe4_0,MqOk Tryz.prog 232 e:=
 mq_consP (mq_pts follows toldV_ok (ts:=[rr58_0,rr58_1,rr58_2,rr58_3,rr58_4,rr58_5,rr58_6,rr58_7,rr58_8,rr58_9,rr58_10,rr58_11,rr58_12,rr58_13,rr58_14,rr58_15,rr58_16,rr58_17,rr58_18,rr58_19,rr58_20,rr58_21,rr58_22,rr58_23,rr58_24,rr58_25,rr58_26,rr58_27,rr58_28,rr58_29,rr58_30,rr58_31]) rfl rfl (fun t h=>by
  simp only[List.mem_cons,List.mem_nil_iff,or_false]at h
  rcases h with rfl|rfl|rfl|rfl|rfl|rfl|rfl|rfl|rfl|rfl|rfl|rfl|rfl|rfl|rfl|rfl|rfl|rfl|rfl|rfl|rfl|rfl|rfl|rfl|rfl|rfl|rfl|rfl|rfl|rfl|rfl|rfl
  ·exact rm58_0
  ·exact rm58_1
  ·exact rm58_2
  ·exact rm58_3
  ·exact rm58_4
  ·exact rm58_5
  ·exact rm58_6
  ·exact rm58_7
  ·exact rm58_8
  ·exact rm58_9
  ·exact rm58_10
  ·exact rm58_11
  ·exact rm58_12
  ·exact rm58_13
  ·exact rm58_14
  ·exact rm58_15
  ·exact rm58_16
  ·exact rm58_17
  ·exact rm58_18
  ·exact rm58_19
  ·exact rm58_20
  ·exact rm58_21
  ·exact rm58_22
  ·exact rm58_23
  ·exact rm58_24
  ·exact rm58_25
  ·exact rm58_26
  ·exact rm58_27
  ·exact rm58_28
  ·exact rm58_29
  ·exact rm58_30
  ·exact rm58_31
  )) (
 fun _ h=>by cases h)
def toldRe4Key:List Value→Tr AObj→Nat:=fun _ _=>0
def toldRe4:Told:=toldRe3.mq 232 [qTabRe4_0] toldRe4Key
theorem toldRe4_ok:ToldS Tryz.prog toldRe4:=Told.mq_ok toldRe3_ok toldRe4Key (mq_tabs qTabRe4_0_ok (fun _ h=>by cases h))
end
noncomputable section
def qTabRe5_0:List MQt:=[rE59]
theorem qTabRe5_0_ok: ∀e∈qTabRe5_0,MqOk Tryz.prog 21 e:=
 mq_consP (mq_pts follows toldV_ok (ts:=[rr59_0,rr59_1]) rfl rfl (fun t h=>by
  simp only[List.mem_cons,List.mem_nil_iff,or_false]at h
  rcases h with rfl|rfl
  ·exact rm59_0
  ·exact rm59_1
  )) (
 fun _ h=>by cases h)
def toldRe5Key:List Value→Tr AObj→Nat:=fun _ _=>0
def toldRe5:Told:=toldRe4.mq 21 [qTabRe5_0] toldRe5Key
theorem toldRe5_ok:ToldS Tryz.prog toldRe5:=Told.mq_ok toldRe4_ok toldRe5Key (mq_tabs qTabRe5_0_ok (fun _ h=>by cases h))
end
noncomputable section
def qTabRe6_0:List MQt:=[rE60,rE61]
theorem qTabRe6_0_ok: ∀e∈qTabRe6_0,MqOk Tryz.prog 181 e:=
 mq_cons follows toldV_ok rm60 (
 mq_consP (mq_pts follows toldV_ok (ts:=[rr61_0,rr61_1,rr61_2,rr61_3]) rfl rfl (fun t h=>by
  simp only[List.mem_cons,List.mem_nil_iff,or_false]at h
  rcases h with rfl|rfl|rfl|rfl
  ·exact rm61_0
  ·exact rm61_1
  ·exact rm61_2
  ·exact rm61_3
  )) (
 fun _ h=>by cases h))
def toldRe6Key:List Value→Tr AObj→Nat:=fun _ _=>0
def toldRe6:Told:=toldRe5.mq 181 [qTabRe6_0] toldRe6Key
theorem toldRe6_ok:ToldS Tryz.prog toldRe6:=Told.mq_ok toldRe5_ok toldRe6Key (mq_tabs qTabRe6_0_ok (fun _ h=>by cases h))
end
noncomputable section
def qTabRe7_0:List MQt:=[rE62]
theorem qTabRe7_0_ok: ∀e∈qTabRe7_0,MqOk Tryz.prog 18 e:=
 mq_consP (mq_pts follows toldV_ok (ts:=[rr62_0,rr62_1,rr62_2,rr62_3,rr62_4,rr62_5,rr62_6,rr62_7,rr62_8,rr62_9,rr62_10,rr62_11,rr62_12,rr62_13,rr62_14,rr62_15,rr62_16,rr62_17,rr62_18,rr62_19,rr62_20,rr62_21,rr62_22,rr62_23,rr62_24,rr62_25,rr62_26,rr62_27,rr62_28,rr62_29,rr62_30,rr62_31]) rfl rfl (fun t h=>by
  simp only[List.mem_cons,List.mem_nil_iff,or_false]at h
  rcases h with rfl|rfl|rfl|rfl|rfl|rfl|rfl|rfl|rfl|rfl|rfl|rfl|rfl|rfl|rfl|rfl|rfl|rfl|rfl|rfl|rfl|rfl|rfl|rfl|rfl|rfl|rfl|rfl|rfl|rfl|rfl|rfl
  ·exact rm62_0
  ·exact rm62_1
  ·exact rm62_2
  ·exact rm62_3
  ·exact rm62_4
  ·exact rm62_5
  ·exact rm62_6
  ·exact rm62_7
  ·exact rm62_8
  ·exact rm62_9
  ·exact rm62_10
  ·exact rm62_11
  ·exact rm62_12
  ·exact rm62_13
  ·exact rm62_14
  ·exact rm62_15
  ·exact rm62_16
  ·exact rm62_17
  ·exact rm62_18
  ·exact rm62_19
  ·exact rm62_20
  ·exact rm62_21
  ·exact rm62_22
  ·exact rm62_23
  ·exact rm62_24
  ·exact rm62_25
  ·exact rm62_26
  ·exact rm62_27
  ·exact rm62_28
  ·exact rm62_29
  ·exact rm62_30
  ·exact rm62_31
  )) (
 fun _ h=>by cases h)
def toldRe7Key:List Value→Tr AObj→Nat:=fun _ _=>0
def toldRe7:Told:=toldRe6.mq 18 [qTabRe7_0] toldRe7Key
theorem toldRe7_ok:ToldS Tryz.prog toldRe7:=Told.mq_ok toldRe6_ok toldRe7Key (mq_tabs qTabRe7_0_ok (fun _ h=>by cases h))
end
noncomputable section
def qTabRe8_0:List MQt:=[rE63]
theorem qTabRe8_0_ok: ∀e∈qTabRe8_0,MqOk Tryz.prog 19 e:=
 mq_consP (mq_pts follows toldV_ok (ts:=[rr63_0,rr63_1,rr63_2,rr63_3,rr63_4,rr63_5,rr63_6,rr63_7,rr63_8,rr63_9,rr63_10,rr63_11,rr63_12,rr63_13,rr63_14,rr63_15,rr63_16,rr63_17,rr63_18,rr63_19,rr63_20,rr63_21,rr63_22,rr63_23,rr63_24,rr63_25,rr63_26,rr63_27,rr63_28,rr63_29,rr63_30,rr63_31]) rfl rfl (fun t h=>by
  simp only[List.mem_cons,List.mem_nil_iff,or_false]at h
  rcases h with rfl|rfl|rfl|rfl|rfl|rfl|rfl|rfl|rfl|rfl|rfl|rfl|rfl|rfl|rfl|rfl|rfl|rfl|rfl|rfl|rfl|rfl|rfl|rfl|rfl|rfl|rfl|rfl|rfl|rfl|rfl|rfl
  ·exact rm63_0
  ·exact rm63_1
  ·exact rm63_2
  ·exact rm63_3
  ·exact rm63_4
  ·exact rm63_5
  ·exact rm63_6
  ·exact rm63_7
  ·exact rm63_8
  ·exact rm63_9
  ·exact rm63_10
  ·exact rm63_11
  ·exact rm63_12
  ·exact rm63_13
  ·exact rm63_14
  ·exact rm63_15
  ·exact rm63_16
  ·exact rm63_17
  ·exact rm63_18
  ·exact rm63_19
  ·exact rm63_20
  ·exact rm63_21
  ·exact rm63_22
  ·exact rm63_23
  ·exact rm63_24
  ·exact rm63_25
  ·exact rm63_26
  ·exact rm63_27
  ·exact rm63_28
  ·exact rm63_29
  ·exact rm63_30
  ·exact rm63_31
  )) (
 fun _ h=>by cases h)
def toldRe8Key:List Value→Tr AObj→Nat:=fun _ _=>0
def toldRe8:Told:=toldRe7.mq 19 [qTabRe8_0] toldRe8Key
theorem toldRe8_ok:ToldS Tryz.prog toldRe8:=Told.mq_ok toldRe7_ok toldRe8Key (mq_tabs qTabRe8_0_ok (fun _ h=>by cases h))
end
end Go.Proofs.YtibobihgolfplaaGreatDoor.Ev
