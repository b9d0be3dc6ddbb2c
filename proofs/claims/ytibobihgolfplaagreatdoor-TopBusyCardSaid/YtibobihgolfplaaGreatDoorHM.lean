/-
  annunciator/sesn.frame, told at these places. (Printed by tools/mqgen.py.)
-/
import Derived.Test.YtibobihgolfplaaGreatDoorP1
import Derived.Test.YtibobihgolfplaaGreatDoorP2
import Derived.Test.YtibobihgolfplaaGreatDoorH1
import Derived.Test.YtibobihgolfplaaGreatDoorP3
import Derived.Test.YtibobihgolfplaaGreatDoorP4
import Derived.Test.YtibobihgolfplaaGreatDoorP5
import Derived.Test.YtibobihgolfplaaGreatDoorP6
import Derived.Test.YtibobihgolfplaaGreatDoorP7
import Derived.Test.YtibobihgolfplaaGreatDoorP8
set_option maxRecDepth 1000000
set_option linter.unusedVariables false
namespace Go.Proofs.YtibobihgolfplaaGreatDoor.Ev
open Go
noncomputable section
def qTabBy4_0:List MQt:=[qE115]
theorem qTabBy4_0_ok: ∀e∈qTabBy4_0,MqOk Tryz.prog 232 e:=
 mq_consP (mq_pts follows toldV_ok (ts:=[qr115_0,qr115_1,qr115_2,qr115_3,qr115_4,qr115_5,qr115_6,qr115_7,qr115_8,qr115_9,qr115_10,qr115_11]) rfl rfl (fun t h=>by
  simp only[List.mem_cons,List.mem_nil_iff,or_false]at h
  rcases h with rfl|rfl|rfl|rfl|rfl|rfl|rfl|rfl|rfl|rfl|rfl|rfl
  ·exact qm115_0
  ·exact qm115_1
  ·exact qm115_2
  ·exact qm115_3
  ·exact qm115_4
  ·exact qm115_5
  ·exact qm115_6
  ·exact qm115_7
  ·exact qm115_8
  ·exact qm115_9
  ·exact qm115_10
  ·exact qm115_11
  )) (
 fun _ h=>by cases h)
def toldBy4Key:List Value→Tr AObj→Nat:=fun _ _=>0
def toldBy4:Told:=toldBy3.mq 232 [qTabBy4_0] toldBy4Key
theorem toldBy4_ok:ToldS Tryz.prog toldBy4:=Told.mq_ok toldBy3_ok toldBy4Key (mq_tabs qTabBy4_0_ok (fun _ h=>by cases h))
end
noncomputable section
def qTabBy5_0:List MQt:=[qE116]
theorem qTabBy5_0_ok: ∀e∈qTabBy5_0,MqOk Tryz.prog 21 e:=
 mq_consP (mq_pts follows toldV_ok (ts:=[qr116_0,qr116_1,qr116_2,qr116_3,qr116_4,qr116_5,qr116_6,qr116_7,qr116_8]) rfl rfl (fun t h=>by
  simp only[List.mem_cons,List.mem_nil_iff,or_false]at h
  rcases h with rfl|rfl|rfl|rfl|rfl|rfl|rfl|rfl|rfl
  ·exact qm116_0
  ·exact qm116_1
  ·exact qm116_2
  ·exact qm116_3
  ·exact qm116_4
  ·exact qm116_5
  ·exact qm116_6
  ·exact qm116_7
  ·exact qm116_8
  )) (
 fun _ h=>by cases h)
def toldBy5Key:List Value→Tr AObj→Nat:=fun _ _=>0
def toldBy5:Told:=toldBy4.mq 21 [qTabBy5_0] toldBy5Key
theorem toldBy5_ok:ToldS Tryz.prog toldBy5:=Told.mq_ok toldBy4_ok toldBy5Key (mq_tabs qTabBy5_0_ok (fun _ h=>by cases h))
end
noncomputable section
def qTabBy6_0:List MQt:=[qE117,qE118]
theorem qTabBy6_0_ok: ∀e∈qTabBy6_0,MqOk Tryz.prog 181 e:=
 mq_consP (mq_pts follows toldV_ok (ts:=[qr117_0]) rfl rfl (fun t h=>by
  simp only[List.mem_cons,List.mem_nil_iff,or_false]at h
  rcases h with rfl
  exact qm117_0
  )) (
 mq_consP (mq_pts follows toldV_ok (ts:=[qr118_0,qr118_1,qr118_2,qr118_3,qr118_4,qr118_5,qr118_6,qr118_7,qr118_8,qr118_9,qr118_10,qr118_11,qr118_12,qr118_13,qr118_14,qr118_15,qr118_16]) rfl rfl (fun t h=>by
  simp only[List.mem_cons,List.mem_nil_iff,or_false]at h
  rcases h with rfl|rfl|rfl|rfl|rfl|rfl|rfl|rfl|rfl|rfl|rfl|rfl|rfl|rfl|rfl|rfl|rfl
  ·exact qm118_0
  ·exact qm118_1
  ·exact qm118_2
  ·exact qm118_3
  ·exact qm118_4
  ·exact qm118_5
  ·exact qm118_6
  ·exact qm118_7
  ·exact qm118_8
  ·exact qm118_9
  ·exact qm118_10
  ·exact qm118_11
  ·exact qm118_12
  ·exact qm118_13
  ·exact qm118_14
  ·exact qm118_15
  ·exact qm118_16
  )) (
 fun _ h=>by cases h))
def toldBy6Key:List Value→Tr AObj→Nat:=fun _ _=>0
def toldBy6:Told:=toldBy5.mq 181 [qTabBy6_0] toldBy6Key
theorem toldBy6_ok:ToldS Tryz.prog toldBy6:=Told.mq_ok toldBy5_ok toldBy6Key (mq_tabs qTabBy6_0_ok (fun _ h=>by cases h))
end
noncomputable section
def qTabBy7_0:List MQt:=[qE119]
theorem qTabBy7_0_ok: ∀e∈qTabBy7_0,MqOk Tryz.prog 18 e:=
 mq_consP (mq_pts follows toldV_ok (ts:=[qr119_0,qr119_1,qr119_2,qr119_3,qr119_4,qr119_5,qr119_6,qr119_7,qr119_8,qr119_9,qr119_10,qr119_11]) rfl rfl (fun t h=>by
  simp only[List.mem_cons,List.mem_nil_iff,or_false]at h
  rcases h with rfl|rfl|rfl|rfl|rfl|rfl|rfl|rfl|rfl|rfl|rfl|rfl
  ·exact qm119_0
  ·exact qm119_1
  ·exact qm119_2
  ·exact qm119_3
  ·exact qm119_4
  ·exact qm119_5
  ·exact qm119_6
  ·exact qm119_7
  ·exact qm119_8
  ·exact qm119_9
  ·exact qm119_10
  ·exact qm119_11
  )) (
 fun _ h=>by cases h)
def toldBy7Key:List Value→Tr AObj→Nat:=fun _ _=>0
def toldBy7:Told:=toldBy6.mq 18 [qTabBy7_0] toldBy7Key
theorem toldBy7_ok:ToldS Tryz.prog toldBy7:=Told.mq_ok toldBy6_ok toldBy7Key (mq_tabs qTabBy7_0_ok (fun _ h=>by cases h))
end
noncomputable section
def qTabBy8_0:List MQt:=[qE120]
theorem qTabBy8_0_ok: ∀e∈qTabBy8_0,MqOk Tryz.prog 19 e:=
 mq_consP (mq_pts follows toldV_ok (ts:=[qr120_0,qr120_1,qr120_2,qr120_3,qr120_4,qr120_5,qr120_6,qr120_7,qr120_8,qr120_9,qr120_10,qr120_11]) rfl rfl (fun t h=>by
  simp only[List.mem_cons,List.mem_nil_iff,or_false]at h
  rcases h with rfl|rfl|rfl|rfl|rfl|rfl|rfl|rfl|rfl|rfl|rfl|rfl
  ·exact qm120_0
  ·exact qm120_1
  ·exact qm120_2
  ·exact qm120_3
  ·exact qm120_4
  ·exact qm120_5
  ·exact qm120_6
  ·exact qm120_7
  ·exact qm120_8
  ·exact qm120_9
  ·exact qm120_10
  ·exact qm120_11
  )) (
 fun _ h=>by cases h)
def toldBy8Key:List Value→Tr AObj→Nat:=fun _ _=>0
def toldBy8:Told:=toldBy7.mq 19 [qTabBy8_0] toldBy8Key
theorem toldBy8_ok:ToldS Tryz.prog toldBy8:=Told.mq_ok toldBy7_ok toldBy8Key (mq_tabs qTabBy8_0_ok (fun _ h=>by cases h))
end
end Go.Proofs.YtibobihgolfplaaGreatDoor.Ev
