/-
  annunciator/ctrl.twin at some places. (Printed by tools/mqgen.py.)
-/
import Derived.Test.YtibobihgolfplaaGreatDoorReT
import Derived.Test.YtibobihgolfplaaGreatDoorGl
set_option maxRecDepth 1000000
set_option linter.unusedVariables false
namespace Go.Proofs.YtibobihgolfplaaGreatDoor.Ev
open Go
theorem rm0(θ:Th):mqB Tryz.prog toldV 32 rE0 θ=some (rE0.out θ,idE θ [] []):=by kernel_rfl
theorem rm1(θ:Th):mqB Tryz.prog toldV 32 rE1 θ=some (rE1.out θ,idE θ [0] []):=by kernel_rfl
theorem rm2(θ:Th):mqB Tryz.prog toldV 32 rE2 θ=some (rE2.out θ,idE θ [1,0] []):=by kernel_rfl
theorem rm3(θ:Th):mqB Tryz.prog toldV 32 rE3 θ=some (rE3.out θ,idE θ [0] []):=by kernel_rfl
theorem rm4(θ:Th):mqB Tryz.prog toldV 32 rE4 θ=some (rE4.out θ,idE θ [4,3,2,1] [1,0]):=by kernel_rfl
theorem rm5(θ:Th):mqB Tryz.prog toldV 32 rE5 θ=some (rE5.out θ,idE θ [5,4,3,2,1] [1,0]):=by kernel_rfl
theorem rm6(θ:Th):mqB Tryz.prog toldV 32 rE6 θ=some (rE6.out θ,idE θ [8,7,6,5,4,3,2,1] [2,1,0]):=by kernel_rfl
theorem rm7(θ:Th):mqB Tryz.prog toldV 32 rE7 θ=some (rE7.out θ,idE θ [7,6,5,4,3,2,1] [2,1,0]):=by kernel_rfl
theorem rm8(θ:Th):mqB Tryz.prog toldV 32 rE8 θ=some (rE8.out θ,idE θ [8,7,6,5,4,3] [2,1,0]):=by kernel_rfl
theorem rm9(θ:Th):mqB Tryz.prog toldV 32 rE9 θ=some (rE9.out θ,idE θ [9,8,7,6,5,4,3] [2,1,0]):=by kernel_rfl
theorem rm10(θ:Th):mqB Tryz.prog toldV 32 rE10 θ=some (rE10.out θ,idE θ [12,11,10,9,8,7,6,5,4,3] [3,2,1,0]):=by kernel_rfl
theorem rm11(θ:Th):mqB Tryz.prog toldV 32 rE11 θ=some (rE11.out θ,idE θ [11,10,9,8,7,6,5,4,3] [3,2,1,0]):=by kernel_rfl
theorem rm12(θ:Th):mqB Tryz.prog toldV 32 rE12 θ=some (rE12.out θ,idE θ [10,9,8,7,6,5,4,3] [3,2,1,0]):=by kernel_rfl
theorem rm13(θ:Th):mqB Tryz.prog toldV 32 rE13 θ=some (rE13.out θ,idE θ [11,10,9,8,7,6,5,4,3] [3,2,1,0]):=by kernel_rfl
theorem rm14(θ:Th):mqB Tryz.prog toldV 32 rE14 θ=some (rE14.out θ,idE θ [14,13,12,11,10,9,8,7,6,5,4,3] [4,3,2,1,0]):=by kernel_rfl
theorem rm15(θ:Th):mqB Tryz.prog toldV 32 rE15 θ=some (rE15.out θ,idE θ [13,12,11,10,9,8,7,6,5,4,3] [4,3,2,1,0]):=by kernel_rfl
theorem rm16(θ:Th):mqB Tryz.prog toldV 32 rE16 θ=some (rE16.out θ,idE θ [10,9,8,7,6,5,4,3] [3,2,1,0]):=by kernel_rfl
theorem rm17(θ:Th):mqB Tryz.prog toldV 32 rE17 θ=some (rE17.out θ,idE θ [8,7,6,5,4,3] [2,1,0]):=by kernel_rfl
theorem rm18(θ:Th):mqB Tryz.prog toldV 32 rE18 θ=some (rE18.out θ,idE θ [7,6,5,4,3] [1,0]):=by kernel_rfl
theorem rm19(θ:Th):mqB Tryz.prog toldV 32 rE19 θ=some (rE19.out θ,idE θ [10,9,8,7,6,5,4,3] [2,1,0]):=by kernel_rfl
theorem rm20(θ:Th):mqB Tryz.prog toldV 32 rE20 θ=some (rE20.out θ,idE θ [9,8,7,6,5,4,3] [2,1,0]):=by kernel_rfl
theorem rm21(θ:Th):mqB Tryz.prog toldV 32 rE21 θ=some (rE21.out θ,idE θ [8,7,6,5,4,3] [2,1,0]):=by kernel_rfl
theorem rm22(θ:Th):mqB Tryz.prog toldV 32 rE22 θ=some (rE22.out θ,idE θ [10,9,8,7,6,5,4,3] [3,2,1,0]):=by kernel_rfl
theorem rm23(θ:Th):mqB Tryz.prog toldV 32 rE23 θ=some (rE23.out θ,idE θ [10,9,8,7,6,5,4,3] [3,2,1,0]):=by kernel_rfl
theorem rm24(θ:Th):mqB Tryz.prog toldV 32 rE24 θ=some (rE24.out θ,idE θ [8,7,6,5,4,3] [2,1,0]):=by kernel_rfl
theorem rm25(θ:Th):mqB Tryz.prog toldV 32 rE25 θ=some (rE25.out θ,idE θ [2,1] [1,0]):=by kernel_rfl
theorem rm26(θ:Th):mqB Tryz.prog toldV 32 rE26 θ=some (rE26.out θ,idE θ [2,1] [1,0]):=by kernel_rfl
theorem rm27(θ:Th):mqB Tryz.prog toldV 32 rE27 θ=some (rE27.out θ,idE θ [2,1] [1,0]):=by kernel_rfl
theorem rm28(θ:Th):mqB Tryz.prog toldV 32 rE28 θ=some (rE28.out θ,idE θ [3,2,1] [1,0]):=by kernel_rfl
theorem rm29(θ:Th):mqB Tryz.prog toldV 32 rE29 θ=some (rE29.out θ,idE θ [5,4,3,2,1] [2,1,0]):=by kernel_rfl
theorem rm30(θ:Th):mqB Tryz.prog toldV 32 rE30 θ=some (rE30.out θ,idE θ [4,3,2,1] [2,1,0]):=by kernel_rfl
noncomputable section
def qTabRe0_0:List MQt:=[rE0,rE3]
theorem qTabRe0_0_ok: ∀e∈qTabRe0_0,MqOk Tryz.prog 32 e:=
 mq_cons follows toldV_ok rm0 (
 mq_cons follows toldV_ok rm3 (
 fun _ h=>by cases h))
def qTabRe0_1:List MQt:=[rE1]
theorem qTabRe0_1_ok: ∀e∈qTabRe0_1,MqOk Tryz.prog 32 e:=
 mq_cons follows toldV_ok rm1 (
 fun _ h=>by cases h)
def qTabRe0_2:List MQt:=[rE2]
theorem qTabRe0_2_ok: ∀e∈qTabRe0_2,MqOk Tryz.prog 32 e:=
 mq_cons follows toldV_ok rm2 (
 fun _ h=>by cases h)
def qTabRe0_3:List MQt:=[rE4,rE7,rE17,rE20,rE24,rE26]
theorem qTabRe0_3_ok: ∀e∈qTabRe0_3,MqOk Tryz.prog 32 e:=
 mq_cons follows toldV_ok rm4 (
 mq_cons follows toldV_ok rm7 (
 mq_cons follows toldV_ok rm17 (
 mq_cons follows toldV_ok rm20 (
 mq_cons follows toldV_ok rm24 (
 mq_cons follows toldV_ok rm26 (
 fun _ h=>by cases h))))))
def qTabRe0_4:List MQt:=[rE5,rE18]
theorem qTabRe0_4_ok: ∀e∈qTabRe0_4,MqOk Tryz.prog 32 e:=
 mq_cons follows toldV_ok rm5 (
 mq_cons follows toldV_ok rm18 (
 fun _ h=>by cases h))
def qTabRe0_5:List MQt:=[rE6,rE19]
theorem qTabRe0_5_ok: ∀e∈qTabRe0_5,MqOk Tryz.prog 32 e:=
 mq_cons follows toldV_ok rm6 (
 mq_cons follows toldV_ok rm19 (
 fun _ h=>by cases h))
def qTabRe0_6:List MQt:=[rE8,rE11,rE16,rE21,rE23]
theorem qTabRe0_6_ok: ∀e∈qTabRe0_6,MqOk Tryz.prog 32 e:=
 mq_cons follows toldV_ok rm8 (
 mq_cons follows toldV_ok rm11 (
 mq_cons follows toldV_ok rm16 (
 mq_cons follows toldV_ok rm21 (
 mq_cons follows toldV_ok rm23 (
 fun _ h=>by cases h)))))
def qTabRe0_7:List MQt:=[rE9]
theorem qTabRe0_7_ok: ∀e∈qTabRe0_7,MqOk Tryz.prog 32 e:=
 mq_cons follows toldV_ok rm9 (
 fun _ h=>by cases h)
def qTabRe0_8:List MQt:=[rE10]
theorem qTabRe0_8_ok: ∀e∈qTabRe0_8,MqOk Tryz.prog 32 e:=
 mq_cons follows toldV_ok rm10 (
 fun _ h=>by cases h)
def qTabRe0_9:List MQt:=[rE12,rE15,rE22]
theorem qTabRe0_9_ok: ∀e∈qTabRe0_9,MqOk Tryz.prog 32 e:=
 mq_cons follows toldV_ok rm12 (
 mq_cons follows toldV_ok rm15 (
 mq_cons follows toldV_ok rm22 (
 fun _ h=>by cases h)))
def qTabRe0_10:List MQt:=[rE13]
theorem qTabRe0_10_ok: ∀e∈qTabRe0_10,MqOk Tryz.prog 32 e:=
 mq_cons follows toldV_ok rm13 (
 fun _ h=>by cases h)
def qTabRe0_11:List MQt:=[rE14]
theorem qTabRe0_11_ok: ∀e∈qTabRe0_11,MqOk Tryz.prog 32 e:=
 mq_cons follows toldV_ok rm14 (
 fun _ h=>by cases h)
def qTabRe0_12:List MQt:=[rE25,rE27,rE30]
theorem qTabRe0_12_ok: ∀e∈qTabRe0_12,MqOk Tryz.prog 32 e:=
 mq_cons follows toldV_ok rm25 (
 mq_cons follows toldV_ok rm27 (
 mq_cons follows toldV_ok rm30 (
 fun _ h=>by cases h)))
def qTabRe0_13:List MQt:=[rE28]
theorem qTabRe0_13_ok: ∀e∈qTabRe0_13,MqOk Tryz.prog 32 e:=
 mq_cons follows toldV_ok rm28 (
 fun _ h=>by cases h)
def qTabRe0_14:List MQt:=[rE29]
theorem qTabRe0_14_ok: ∀e∈qTabRe0_14,MqOk Tryz.prog 32 e:=
 mq_cons follows toldV_ok rm29 (
 fun _ h=>by cases h)
def toldRe0Key:List Value→Tr AObj→Nat:=keyOf1 [16777216,16781312,16777472,9437184,9441280,9437440,277872640,277876736,277872896,546308096,546312192,546308352,26214400,26218496,26214656]
def toldRe0:Told:=toldV.mq 32 [qTabRe0_0,qTabRe0_1,qTabRe0_2,qTabRe0_3,qTabRe0_4,qTabRe0_5,qTabRe0_6,qTabRe0_7,qTabRe0_8,qTabRe0_9,qTabRe0_10,qTabRe0_11,qTabRe0_12,qTabRe0_13,qTabRe0_14] toldRe0Key
theorem toldRe0_ok:ToldS Tryz.prog toldRe0:=Told.mq_ok toldV_ok toldRe0Key (mq_tabs qTabRe0_0_ok (mq_tabs qTabRe0_1_ok (mq_tabs qTabRe0_2_ok (mq_tabs qTabRe0_3_ok (mq_tabs qTabRe0_4_ok (mq_tabs qTabRe0_5_ok (mq_tabs qTabRe0_6_ok (mq_tabs qTabRe0_7_ok (mq_tabs qTabRe0_8_ok (mq_tabs qTabRe0_9_ok (mq_tabs qTabRe0_10_ok (mq_tabs qTabRe0_11_ok (mq_tabs qTabRe0_12_ok (mq_tabs qTabRe0_13_ok (mq_tabs qTabRe0_14_ok (fun _ h=>by cases h))))))))))))))))
end
end Go.Proofs.YtibobihgolfplaaGreatDoor.Ev
