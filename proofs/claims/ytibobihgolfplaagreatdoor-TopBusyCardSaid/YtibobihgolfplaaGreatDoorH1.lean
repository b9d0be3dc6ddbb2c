/-
  annunciator/scan.Step at some places. (Printed by tools/mqgen.py.)
-/
import Derived.Test.YtibobihgolfplaaGreatDoorByT
import Derived.Test.YtibobihgolfplaaGreatDoorByM0
set_option maxRecDepth 1000000
set_option linter.unusedVariables false
namespace Go.Proofs.YtibobihgolfplaaGreatDoor.Ev
open Go
theorem qm90(θ:Th):mqB Tryz.prog toldBy0 178 qE90 θ=some (qE90.out θ,idE θ [6,5,4,3,2,1] [1,0]):=by kernel_rfl
theorem qm91(θ:Th):mqB Tryz.prog toldBy0 178 qE91 θ=some (qE91.out θ,idE θ [7,6,5,4,3,2,1] [1,0]):=by kernel_rfl
theorem qm92(θ:Th):mqB Tryz.prog toldBy0 178 qE92 θ=some (qE92.out θ,idE θ [7,6,5,4,3,2,1] [1,0]):=by kernel_rfl
theorem qm93(θ:Th):mqB Tryz.prog toldBy0 178 qE93 θ=some (qE93.out θ,idE θ [7,6,5,4,3,2,1] [1,0]):=by kernel_rfl
theorem qm94(θ:Th):mqB Tryz.prog toldBy0 178 qE94 θ=some (qE94.out θ,idE θ [6,5,4,3,2,1] [1,0]):=by kernel_rfl
theorem qm95(θ:Th):mqB Tryz.prog toldBy0 178 qE95 θ=some (qE95.out θ,idE θ [6,5,4,3,2,1] [1,0]):=by kernel_rfl
theorem qm96(θ:Th):mqB Tryz.prog toldBy0 178 qE96 θ=some (qE96.out θ,idE θ [6,5,4,3,2,1] [1,0]):=by kernel_rfl
theorem qm97(θ:Th):mqB Tryz.prog toldBy0 178 qE97 θ=some (qE97.out θ,idE θ [6,5,4,3,2,1] [1,0]):=by kernel_rfl
theorem qm98(θ:Th):mqB Tryz.prog toldBy0 178 qE98 θ=some (qE98.out θ,idE θ [5,4,3,2,1] [1,0]):=by kernel_rfl
theorem qm99(θ:Th):mqB Tryz.prog toldBy0 178 qE99 θ=some (qE99.out θ,idE θ [5,4,3,2,1] [1,0]):=by kernel_rfl
theorem qm100(θ:Th):mqB Tryz.prog toldBy0 178 qE100 θ=some (qE100.out θ,idE θ [5,4,3,2,1] [1,0]):=by kernel_rfl
theorem qm101(θ:Th):mqB Tryz.prog toldBy0 178 qE101 θ=some (qE101.out θ,idE θ [5,4,3,2,1] [2,1,0]):=by kernel_rfl
theorem qm102(θ:Th):mqB Tryz.prog toldBy0 178 qE102 θ=some (qE102.out θ,idE θ [5,4,3,2,1] [2,1,0]):=by kernel_rfl
theorem qm103(θ:Th):mqB Tryz.prog toldBy0 178 qE103 θ=some (qE103.out θ,idE θ [5,4,3,2,1] [2,1,0]):=by kernel_rfl
theorem qm104(θ:Th):mqB Tryz.prog toldBy0 178 qE104 θ=some (qE104.out θ,idE θ [5,4,3,2,1] [1,0]):=by kernel_rfl
noncomputable section
def qTabBy1_0:List MQt:=[qE90]
theorem qTabBy1_0_ok: ∀e∈qTabBy1_0,MqOk Tryz.prog 178 e:=
 mq_cons follows toldBy0_ok qm90 (
 fun _ h=>by cases h)
def qTabBy1_1:List MQt:=[qE91]
theorem qTabBy1_1_ok: ∀e∈qTabBy1_1,MqOk Tryz.prog 178 e:=
 mq_cons follows toldBy0_ok qm91 (
 fun _ h=>by cases h)
def qTabBy1_2:List MQt:=[qE92]
theorem qTabBy1_2_ok: ∀e∈qTabBy1_2,MqOk Tryz.prog 178 e:=
 mq_cons follows toldBy0_ok qm92 (
 fun _ h=>by cases h)
def qTabBy1_3:List MQt:=[qE93]
theorem qTabBy1_3_ok: ∀e∈qTabBy1_3,MqOk Tryz.prog 178 e:=
 mq_cons follows toldBy0_ok qm93 (
 fun _ h=>by cases h)
def qTabBy1_4:List MQt:=[qE94]
theorem qTabBy1_4_ok: ∀e∈qTabBy1_4,MqOk Tryz.prog 178 e:=
 mq_cons follows toldBy0_ok qm94 (
 fun _ h=>by cases h)
def qTabBy1_5:List MQt:=[qE95]
theorem qTabBy1_5_ok: ∀e∈qTabBy1_5,MqOk Tryz.prog 178 e:=
 mq_cons follows toldBy0_ok qm95 (
 fun _ h=>by cases h)
def qTabBy1_6:List MQt:=[qE96]
theorem qTabBy1_6_ok: ∀e∈qTabBy1_6,MqOk Tryz.prog 178 e:=
 mq_cons follows toldBy0_ok qm96 (
 fun _ h=>by cases h)
def qTabBy1_7:List MQt:=[qE97]
theorem qTabBy1_7_ok: ∀e∈qTabBy1_7,MqOk Tryz.prog 178 e:=
 mq_cons follows toldBy0_ok qm97 (
 fun _ h=>by cases h)
def qTabBy1_8:List MQt:=[qE98]
theorem qTabBy1_8_ok: ∀e∈qTabBy1_8,MqOk Tryz.prog 178 e:=
 mq_cons follows toldBy0_ok qm98 (
 fun _ h=>by cases h)
def qTabBy1_9:List MQt:=[qE99]
theorem qTabBy1_9_ok: ∀e∈qTabBy1_9,MqOk Tryz.prog 178 e:=
 mq_cons follows toldBy0_ok qm99 (
 fun _ h=>by cases h)
def qTabBy1_10:List MQt:=[qE100]
theorem qTabBy1_10_ok: ∀e∈qTabBy1_10,MqOk Tryz.prog 178 e:=
 mq_cons follows toldBy0_ok qm100 (
 fun _ h=>by cases h)
def qTabBy1_11:List MQt:=[qE101]
theorem qTabBy1_11_ok: ∀e∈qTabBy1_11,MqOk Tryz.prog 178 e:=
 mq_cons follows toldBy0_ok qm101 (
 fun _ h=>by cases h)
def qTabBy1_12:List MQt:=[qE102]
theorem qTabBy1_12_ok: ∀e∈qTabBy1_12,MqOk Tryz.prog 178 e:=
 mq_cons follows toldBy0_ok qm102 (
 fun _ h=>by cases h)
def qTabBy1_13:List MQt:=[qE103]
theorem qTabBy1_13_ok: ∀e∈qTabBy1_13,MqOk Tryz.prog 178 e:=
 mq_cons follows toldBy0_ok qm103 (
 fun _ h=>by cases h)
def qTabBy1_14:List MQt:=[qE104]
theorem qTabBy1_14_ok: ∀e∈qTabBy1_14,MqOk Tryz.prog 178 e:=
 mq_cons follows toldBy0_ok qm104 (
 fun _ h=>by cases h)
def toldBy1Key:List Value→Tr AObj→Nat:=keyPC [0,17,34,51,68,85,102,119,136,153,218,235,252,269,286]
def toldBy1:Told:=toldBy0.mq 178 [qTabBy1_0,qTabBy1_1,qTabBy1_2,qTabBy1_3,qTabBy1_4,qTabBy1_5,qTabBy1_6,qTabBy1_7,qTabBy1_8,qTabBy1_9,qTabBy1_10,qTabBy1_11,qTabBy1_12,qTabBy1_13,qTabBy1_14] toldBy1Key
theorem toldBy1_ok:ToldS Tryz.prog toldBy1:=Told.mq_ok toldBy0_ok toldBy1Key (mq_tabs qTabBy1_0_ok (mq_tabs qTabBy1_1_ok (mq_tabs qTabBy1_2_ok (mq_tabs qTabBy1_3_ok (mq_tabs qTabBy1_4_ok (mq_tabs qTabBy1_5_ok (mq_tabs qTabBy1_6_ok (mq_tabs qTabBy1_7_ok (mq_tabs qTabBy1_8_ok (mq_tabs qTabBy1_9_ok (mq_tabs qTabBy1_10_ok (mq_tabs qTabBy1_11_ok (mq_tabs qTabBy1_12_ok (mq_tabs qTabBy1_13_ok (mq_tabs qTabBy1_14_ok (fun _ h=>by cases h))))))))))))))))
end
theorem qm105(θ:Th):mqB Tryz.prog toldBy1 186 qE105 θ=some (qE105.out θ,idE θ [] []):=by kernel_rfl
theorem qm106(θ:Th):mqB Tryz.prog toldBy1 186 qE106 θ=some (qE106.out θ,idE θ [] []):=by kernel_rfl
theorem qm107(θ:Th):mqB Tryz.prog toldBy1 186 qE107 θ=some (qE107.out θ,idE θ [] []):=by kernel_rfl
theorem qm108(θ:Th):mqB Tryz.prog toldBy1 186 qE108 θ=some (qE108.out θ,idE θ [] []):=by kernel_rfl
theorem qm109(θ:Th):mqB Tryz.prog toldBy1 186 qE109 θ=some (qE109.out θ,idE θ [] []):=by kernel_rfl
theorem qm110(θ:Th):mqB Tryz.prog toldBy1 186 qE110 θ=some (qE110.out θ,idE θ [] []):=by kernel_rfl
theorem qm111(θ:Th):mqB Tryz.prog toldBy1 186 qE111 θ=some (qE111.out θ,idE θ [] []):=by kernel_rfl
theorem qm112(θ:Th):mqB Tryz.prog toldBy1 186 qE112 θ=some (qE112.out θ,idE θ [] []):=by kernel_rfl
theorem qm113(θ:Th):mqB Tryz.prog toldBy1 186 qE113 θ=some (qE113.out θ,idE θ [] []):=by kernel_rfl
noncomputable section
def qTabBy2_0:List MQt:=[qE105,qE106,qE107,qE108,qE109,qE110,qE111,qE112,qE113]
theorem qTabBy2_0_ok: ∀e∈qTabBy2_0,MqOk Tryz.prog 186 e:=
 mq_cons follows toldBy1_ok qm105 (
 mq_cons follows toldBy1_ok qm106 (
 mq_cons follows toldBy1_ok qm107 (
 mq_cons follows toldBy1_ok qm108 (
 mq_cons follows toldBy1_ok qm109 (
 mq_cons follows toldBy1_ok qm110 (
 mq_cons follows toldBy1_ok qm111 (
 mq_cons follows toldBy1_ok qm112 (
 mq_cons follows toldBy1_ok qm113 (
 fun _ h=>by cases h)))))))))
def toldBy2Key:List Value→Tr AObj→Nat:=fun _ _=>0
def toldBy2:Told:=toldBy1.mq 186 [qTabBy2_0] toldBy2Key
theorem toldBy2_ok:ToldS Tryz.prog toldBy2:=Told.mq_ok toldBy1_ok toldBy2Key (mq_tabs qTabBy2_0_ok (fun _ h=>by cases h))
end
theorem qm114(θ:Th):mqB Tryz.prog toldBy2 20 qE114 θ=some (qE114.out θ,idE θ [] []):=by kernel_rfl
noncomputable section
def qTabBy3_0:List MQt:=[qE114]
theorem qTabBy3_0_ok: ∀e∈qTabBy3_0,MqOk Tryz.prog 20 e:=
 mq_cons follows toldBy2_ok qm114 (
 fun _ h=>by cases h)
def toldBy3Key:List Value→Tr AObj→Nat:=fun _ _=>0
def toldBy3:Told:=toldBy2.mq 20 [qTabBy3_0] toldBy3Key
theorem toldBy3_ok:ToldS Tryz.prog toldBy3:=Told.mq_ok toldBy2_ok toldBy3Key (mq_tabs qTabBy3_0_ok (fun _ h=>by cases h))
end
end Go.Proofs.YtibobihgolfplaaGreatDoor.Ev
