/-
  annunciator/scan.Step at some places. (Printed by tools/mqgen.py.)
-/
import Derived.Test.YtibobihgolfplaaGreatDoorReT
import Derived.Test.YtibobihgolfplaaGreatDoorH0
import Derived.Test.YtibobihgolfplaaGreatDoorGl
set_option maxRecDepth 1000000
set_option linter.unusedVariables false
namespace Go.Proofs.YtibobihgolfplaaGreatDoor.Ev
open Go
theorem rm31(θ:Th):mqB Tryz.prog toldRe0 178 rE31 θ=some (rE31.out θ,idE θ [4,3,2,1] [1,0]):=by kernel_rfl
theorem rm32(θ:Th):mqB Tryz.prog toldRe0 178 rE32 θ=some (rE32.out θ,idE θ [5,4,3,2,1] [1,0]):=by kernel_rfl
theorem rm33(θ:Th):mqB Tryz.prog toldRe0 178 rE33 θ=some (rE33.out θ,idE θ [5,4,3,2,1] [1,0]):=by kernel_rfl
theorem rm34(θ:Th):mqB Tryz.prog toldRe0 178 rE34 θ=some (rE34.out θ,idE θ [5,4,3,2,1] [1,0]):=by kernel_rfl
theorem rm35(θ:Th):mqB Tryz.prog toldRe0 178 rE35 θ=some (rE35.out θ,idE θ [4,3,2,1] [1,0]):=by kernel_rfl
theorem rm36(θ:Th):mqB Tryz.prog toldRe0 178 rE36 θ=some (rE36.out θ,idE θ [4,3,2,1] [1,0]):=by kernel_rfl
theorem rm37(θ:Th):mqB Tryz.prog toldRe0 178 rE37 θ=some (rE37.out θ,idE θ [4,3,2,1] [1,0]):=by kernel_rfl
theorem rm38(θ:Th):mqB Tryz.prog toldRe0 178 rE38 θ=some (rE38.out θ,idE θ [4,3,2,1] [1,0]):=by kernel_rfl
theorem rm39(θ:Th):mqB Tryz.prog toldRe0 178 rE39 θ=some (rE39.out θ,idE θ [3,2,1] [1,0]):=by kernel_rfl
theorem rm40(θ:Th):mqB Tryz.prog toldRe0 178 rE40 θ=some (rE40.out θ,idE θ [3,2,1] [1,0]):=by kernel_rfl
theorem rm41(θ:Th):mqB Tryz.prog toldRe0 178 rE41 θ=some (rE41.out θ,idE θ [3,2,1] [1,0]):=by kernel_rfl
theorem rm42(θ:Th):mqB Tryz.prog toldRe0 178 rE42 θ=some (rE42.out θ,idE θ [3,2,1] [2,1,0]):=by kernel_rfl
theorem rm43(θ:Th):mqB Tryz.prog toldRe0 178 rE43 θ=some (rE43.out θ,idE θ [3,2,1] [2,1,0]):=by kernel_rfl
theorem rm44(θ:Th):mqB Tryz.prog toldRe0 178 rE44 θ=some (rE44.out θ,idE θ [3,2,1] [2,1,0]):=by kernel_rfl
theorem rm45(θ:Th):mqB Tryz.prog toldRe0 178 rE45 θ=some (rE45.out θ,idE θ [3,2,1] [1,0]):=by kernel_rfl
noncomputable section
def qTabRe1_0:List MQt:=[rE31]
theorem qTabRe1_0_ok: ∀e∈qTabRe1_0,MqOk Tryz.prog 178 e:=
 mq_cons follows toldRe0_ok rm31 (
 fun _ h=>by cases h)
def qTabRe1_1:List MQt:=[rE32]
theorem qTabRe1_1_ok: ∀e∈qTabRe1_1,MqOk Tryz.prog 178 e:=
 mq_cons follows toldRe0_ok rm32 (
 fun _ h=>by cases h)
def qTabRe1_2:List MQt:=[rE33]
theorem qTabRe1_2_ok: ∀e∈qTabRe1_2,MqOk Tryz.prog 178 e:=
 mq_cons follows toldRe0_ok rm33 (
 fun _ h=>by cases h)
def qTabRe1_3:List MQt:=[rE34]
theorem qTabRe1_3_ok: ∀e∈qTabRe1_3,MqOk Tryz.prog 178 e:=
 mq_cons follows toldRe0_ok rm34 (
 fun _ h=>by cases h)
def qTabRe1_4:List MQt:=[rE35]
theorem qTabRe1_4_ok: ∀e∈qTabRe1_4,MqOk Tryz.prog 178 e:=
 mq_cons follows toldRe0_ok rm35 (
 fun _ h=>by cases h)
def qTabRe1_5:List MQt:=[rE36]
theorem qTabRe1_5_ok: ∀e∈qTabRe1_5,MqOk Tryz.prog 178 e:=
 mq_cons follows toldRe0_ok rm36 (
 fun _ h=>by cases h)
def qTabRe1_6:List MQt:=[rE37]
theorem qTabRe1_6_ok: ∀e∈qTabRe1_6,MqOk Tryz.prog 178 e:=
 mq_cons follows toldRe0_ok rm37 (
 fun _ h=>by cases h)
def qTabRe1_7:List MQt:=[rE38]
theorem qTabRe1_7_ok: ∀e∈qTabRe1_7,MqOk Tryz.prog 178 e:=
 mq_cons follows toldRe0_ok rm38 (
 fun _ h=>by cases h)
def qTabRe1_8:List MQt:=[rE39]
theorem qTabRe1_8_ok: ∀e∈qTabRe1_8,MqOk Tryz.prog 178 e:=
 mq_cons follows toldRe0_ok rm39 (
 fun _ h=>by cases h)
def qTabRe1_9:List MQt:=[rE40]
theorem qTabRe1_9_ok: ∀e∈qTabRe1_9,MqOk Tryz.prog 178 e:=
 mq_cons follows toldRe0_ok rm40 (
 fun _ h=>by cases h)
def qTabRe1_10:List MQt:=[rE41]
theorem qTabRe1_10_ok: ∀e∈qTabRe1_10,MqOk Tryz.prog 178 e:=
 mq_cons follows toldRe0_ok rm41 (
 fun _ h=>by cases h)
def qTabRe1_11:List MQt:=[rE42]
theorem qTabRe1_11_ok: ∀e∈qTabRe1_11,MqOk Tryz.prog 178 e:=
 mq_cons follows toldRe0_ok rm42 (
 fun _ h=>by cases h)
def qTabRe1_12:List MQt:=[rE43]
theorem qTabRe1_12_ok: ∀e∈qTabRe1_12,MqOk Tryz.prog 178 e:=
 mq_cons follows toldRe0_ok rm43 (
 fun _ h=>by cases h)
def qTabRe1_13:List MQt:=[rE44]
theorem qTabRe1_13_ok: ∀e∈qTabRe1_13,MqOk Tryz.prog 178 e:=
 mq_cons follows toldRe0_ok rm44 (
 fun _ h=>by cases h)
def qTabRe1_14:List MQt:=[rE45]
theorem qTabRe1_14_ok: ∀e∈qTabRe1_14,MqOk Tryz.prog 178 e:=
 mq_cons follows toldRe0_ok rm45 (
 fun _ h=>by cases h)
def toldRe1Key:List Value→Tr AObj→Nat:=keyPC [0,17,34,51,68,85,102,119,136,153,218,235,252,269,286]
def toldRe1:Told:=toldRe0.mq 178 [qTabRe1_0,qTabRe1_1,qTabRe1_2,qTabRe1_3,qTabRe1_4,qTabRe1_5,qTabRe1_6,qTabRe1_7,qTabRe1_8,qTabRe1_9,qTabRe1_10,qTabRe1_11,qTabRe1_12,qTabRe1_13,qTabRe1_14] toldRe1Key
theorem toldRe1_ok:ToldS Tryz.prog toldRe1:=Told.mq_ok toldRe0_ok toldRe1Key (mq_tabs qTabRe1_0_ok (mq_tabs qTabRe1_1_ok (mq_tabs qTabRe1_2_ok (mq_tabs qTabRe1_3_ok (mq_tabs qTabRe1_4_ok (mq_tabs qTabRe1_5_ok (mq_tabs qTabRe1_6_ok (mq_tabs qTabRe1_7_ok (mq_tabs qTabRe1_8_ok (mq_tabs qTabRe1_9_ok (mq_tabs qTabRe1_10_ok (mq_tabs qTabRe1_11_ok (mq_tabs qTabRe1_12_ok (mq_tabs qTabRe1_13_ok (mq_tabs qTabRe1_14_ok (fun _ h=>by cases h))))))))))))))))
end
theorem rm46(θ:Th):mqB Tryz.prog toldV 186 rE46 θ=some (rE46.out θ,idE θ [] []):=by kernel_rfl
theorem rm47(θ:Th):mqB Tryz.prog toldV 186 rE47 θ=some (rE47.out θ,idE θ [] []):=by kernel_rfl
theorem rm48(θ:Th):mqB Tryz.prog toldV 186 rE48 θ=some (rE48.out θ,idE θ [] []):=by kernel_rfl
theorem rm49(θ:Th):mqB Tryz.prog toldV 186 rE49 θ=some (rE49.out θ,idE θ [] []):=by kernel_rfl
theorem rm50(θ:Th):mqB Tryz.prog toldV 186 rE50 θ=some (rE50.out θ,idE θ [] []):=by kernel_rfl
theorem rm51(θ:Th):mqB Tryz.prog toldV 186 rE51 θ=some (rE51.out θ,idE θ [] []):=by kernel_rfl
theorem rm52(θ:Th):mqB Tryz.prog toldV 186 rE52 θ=some (rE52.out θ,idE θ [] []):=by kernel_rfl
theorem rm53(θ:Th):mqB Tryz.prog toldV 186 rE53 θ=some (rE53.out θ,idE θ [] []):=by kernel_rfl
theorem rm54(θ:Th):mqB Tryz.prog toldV 186 rE54 θ=some (rE54.out θ,idE θ [] []):=by kernel_rfl
noncomputable section
def qTabRe2_0:List MQt:=[rE46,rE47,rE48,rE49,rE50,rE51,rE52,rE53,rE54]
theorem qTabRe2_0_ok: ∀e∈qTabRe2_0,MqOk Tryz.prog 186 e:=
 mq_cons follows toldV_ok rm46 (
 mq_cons follows toldV_ok rm47 (
 mq_cons follows toldV_ok rm48 (
 mq_cons follows toldV_ok rm49 (
 mq_cons follows toldV_ok rm50 (
 mq_cons follows toldV_ok rm51 (
 mq_cons follows toldV_ok rm52 (
 mq_cons follows toldV_ok rm53 (
 mq_cons follows toldV_ok rm54 (
 fun _ h=>by cases h)))))))))
def toldRe2Key:List Value→Tr AObj→Nat:=fun _ _=>0
def toldRe2:Told:=toldRe1.mq 186 [qTabRe2_0] toldRe2Key
theorem toldRe2_ok:ToldS Tryz.prog toldRe2:=Told.mq_ok toldRe1_ok toldRe2Key (mq_tabs qTabRe2_0_ok (fun _ h=>by cases h))
end
theorem rm55(θ:Th):mqB Tryz.prog toldV 20 rE55 θ=some (rE55.out θ,idE θ [] []):=by kernel_rfl
theorem rm56(θ:Th):mqB Tryz.prog toldV 20 rE56 θ=some (rE56.out θ,idE θ [] []):=by kernel_rfl
theorem rm57(θ:Th):mqB Tryz.prog toldV 20 rE57 θ=some (rE57.out θ,idE θ [] []):=by kernel_rfl
noncomputable section
def qTabRe3_0:List MQt:=[rE55,rE56,rE57]
theorem qTabRe3_0_ok: ∀e∈qTabRe3_0,MqOk Tryz.prog 20 e:=
 mq_cons follows toldV_ok rm55 (
 mq_cons follows toldV_ok rm56 (
 mq_cons follows toldV_ok rm57 (
 fun _ h=>by cases h)))
def toldRe3Key:List Value→Tr AObj→Nat:=fun _ _=>0
def toldRe3:Told:=toldRe2.mq 20 [qTabRe3_0] toldRe3Key
theorem toldRe3_ok:ToldS Tryz.prog toldRe3:=Told.mq_ok toldRe2_ok toldRe3Key (mq_tabs qTabRe3_0_ok (fun _ h=>by cases h))
end
theorem rm59_0:PtsOk Tryz.prog toldV 21 rE59 [] [] rr59_0:=fun θ=>by kernel_rfl
theorem rm59_1:PtsOk Tryz.prog toldV 21 rE59 [] [] rr59_1:=fun θ=>by kernel_rfl
theorem rm60(θ:Th):mqB Tryz.prog toldV 181 rE60 θ=some (rE60.out θ,idE θ [] []):=by kernel_rfl
theorem rm61_0:PtsOk Tryz.prog toldV 181 rE61 [4,3,2,1,0] [] rr61_0:=fun θ=>by kernel_rfl
theorem rm61_1:PtsOk Tryz.prog toldV 181 rE61 [4,3,2,1,0] [] rr61_1:=fun θ=>by kernel_rfl
theorem rm61_2:PtsOk Tryz.prog toldV 181 rE61 [4,3,2,1,0] [] rr61_2:=fun θ=>by kernel_rfl
theorem rm61_3:PtsOk Tryz.prog toldV 181 rE61 [4,3,2,1,0] [] rr61_3:=fun θ=>by kernel_rfl
end Go.Proofs.YtibobihgolfplaaGreatDoor.Ev
