/-
  annunciator/ctrl.twin, told at these places. (Printed by tools/mqgen.py.)
-/
import Derived.Test.YtibobihgolfplaaGreatDoorH0a
import Derived.Test.YtibobihgolfplaaGreatDoorH0b
import Derived.Test.YtibobihgolfplaaGreatDoorH0c
set_option linter.unusedVariables false
set_option maxRecDepth 1000000
namespace Go.Proofs.YtibobihgolfplaaGreatDoor.Ev
open Go
noncomputable section
def qTabBy0_0:List MQt:=[qE0]
theorem qTabBy0_0_ok: ∀e∈qTabBy0_0,MqOk Tryz.prog 32 e:=
 mq_cons follows toldV_ok qm0 (
 fun _ h=>by cases h)
def qTabBy0_1:List MQt:=[qE1]
theorem qTabBy0_1_ok: ∀e∈qTabBy0_1,MqOk Tryz.prog 32 e:=
 mq_cons follows toldV_ok qm1 (
 fun _ h=>by cases h)
def qTabBy0_2:List MQt:=[qE2]
theorem qTabBy0_2_ok: ∀e∈qTabBy0_2,MqOk Tryz.prog 32 e:=
 mq_cons follows toldV_ok qm2 (
 fun _ h=>by cases h)
def qTabBy0_3:List MQt:=[qE3,qE16,qE42]
theorem qTabBy0_3_ok: ∀e∈qTabBy0_3,MqOk Tryz.prog 32 e:=
 mq_cons follows toldV_ok qm3 (
 mq_cons follows toldV_ok qm16 (
 mq_cons follows toldV_ok qm42 (
 fun _ h=>by cases h)))
def qTabBy0_4:List MQt:=[qE4,qE5,qE22,qE23,qE43]
theorem qTabBy0_4_ok: ∀e∈qTabBy0_4,MqOk Tryz.prog 32 e:=
 mq_cons follows toldV_ok qm4 (
 mq_cons follows toldV_ok qm5 (
 mq_cons follows toldV_ok qm22 (
 mq_cons follows toldV_ok qm23 (
 mq_cons follows toldV_ok qm43 (
 fun _ h=>by cases h)))))
def qTabBy0_5:List MQt:=[qE6,qE24]
theorem qTabBy0_5_ok: ∀e∈qTabBy0_5,MqOk Tryz.prog 32 e:=
 mq_cons follows toldV_ok qm6 (
 mq_cons follows toldV_ok qm24 (
 fun _ h=>by cases h))
def qTabBy0_6:List MQt:=[qE7,qE11,qE25]
theorem qTabBy0_6_ok: ∀e∈qTabBy0_6,MqOk Tryz.prog 32 e:=
 mq_cons follows toldV_ok qm7 (
 mq_cons follows toldV_ok qm11 (
 mq_cons follows toldV_ok qm25 (
 fun _ h=>by cases h)))
def qTabBy0_7:List MQt:=[qE8,qE10]
theorem qTabBy0_7_ok: ∀e∈qTabBy0_7,MqOk Tryz.prog 32 e:=
 mq_cons follows toldV_ok qm8 (
 mq_cons follows toldV_ok qm10 (
 fun _ h=>by cases h))
def qTabBy0_8:List MQt:=[qE9]
theorem qTabBy0_8_ok: ∀e∈qTabBy0_8,MqOk Tryz.prog 32 e:=
 mq_cons follows toldV_ok qm9 (
 fun _ h=>by cases h)
def qTabBy0_9:List MQt:=[qE12]
theorem qTabBy0_9_ok: ∀e∈qTabBy0_9,MqOk Tryz.prog 32 e:=
 mq_cons follows toldV_ok qm12 (
 fun _ h=>by cases h)
def qTabBy0_10:List MQt:=[qE13,qE15]
theorem qTabBy0_10_ok: ∀e∈qTabBy0_10,MqOk Tryz.prog 32 e:=
 mq_cons follows toldV_ok qm13 (
 mq_cons follows toldV_ok qm15 (
 fun _ h=>by cases h))
def qTabBy0_11:List MQt:=[qE14]
theorem qTabBy0_11_ok: ∀e∈qTabBy0_11,MqOk Tryz.prog 32 e:=
 mq_cons follows toldV_ok qm14 (
 fun _ h=>by cases h)
def qTabBy0_12:List MQt:=[qE17]
theorem qTabBy0_12_ok: ∀e∈qTabBy0_12,MqOk Tryz.prog 32 e:=
 mq_cons follows toldV_ok qm17 (
 fun _ h=>by cases h)
def qTabBy0_13:List MQt:=[qE18]
theorem qTabBy0_13_ok: ∀e∈qTabBy0_13,MqOk Tryz.prog 32 e:=
 mq_cons follows toldV_ok qm18 (
 fun _ h=>by cases h)
def qTabBy0_14:List MQt:=[qE19]
theorem qTabBy0_14_ok: ∀e∈qTabBy0_14,MqOk Tryz.prog 32 e:=
 mq_cons follows toldV_ok qm19 (
 fun _ h=>by cases h)
def qTabBy0_15:List MQt:=[qE20,qE36,qE41,qE60]
theorem qTabBy0_15_ok: ∀e∈qTabBy0_15,MqOk Tryz.prog 32 e:=
 mq_cons follows toldV_ok qm20 (
 mq_cons follows toldV_ok qm36 (
 mq_cons follows toldV_ok qm41 (
 mq_cons follows toldV_ok qm60 (
 fun _ h=>by cases h))))
def qTabBy0_16:List MQt:=[qE21]
theorem qTabBy0_16_ok: ∀e∈qTabBy0_16,MqOk Tryz.prog 32 e:=
 mq_cons follows toldV_ok qm21 (
 fun _ h=>by cases h)
def qTabBy0_17:List MQt:=[qE26]
theorem qTabBy0_17_ok: ∀e∈qTabBy0_17,MqOk Tryz.prog 32 e:=
 mq_cons follows toldV_ok qm26 (
 fun _ h=>by cases h)
def qTabBy0_18:List MQt:=[qE27,qE31]
theorem qTabBy0_18_ok: ∀e∈qTabBy0_18,MqOk Tryz.prog 32 e:=
 mq_cons follows toldV_ok qm27 (
 mq_cons follows toldV_ok qm31 (
 fun _ h=>by cases h))
def qTabBy0_19:List MQt:=[qE28,qE30]
theorem qTabBy0_19_ok: ∀e∈qTabBy0_19,MqOk Tryz.prog 32 e:=
 mq_cons follows toldV_ok qm28 (
 mq_cons follows toldV_ok qm30 (
 fun _ h=>by cases h))
def qTabBy0_20:List MQt:=[qE29]
theorem qTabBy0_20_ok: ∀e∈qTabBy0_20,MqOk Tryz.prog 32 e:=
 mq_cons follows toldV_ok qm29 (
 fun _ h=>by cases h)
def qTabBy0_21:List MQt:=[qE32]
theorem qTabBy0_21_ok: ∀e∈qTabBy0_21,MqOk Tryz.prog 32 e:=
 mq_cons follows toldV_ok qm32 (
 fun _ h=>by cases h)
def qTabBy0_22:List MQt:=[qE33,qE35]
theorem qTabBy0_22_ok: ∀e∈qTabBy0_22,MqOk Tryz.prog 32 e:=
 mq_cons follows toldV_ok qm33 (
 mq_cons follows toldV_ok qm35 (
 fun _ h=>by cases h))
def qTabBy0_23:List MQt:=[qE34]
theorem qTabBy0_23_ok: ∀e∈qTabBy0_23,MqOk Tryz.prog 32 e:=
 mq_cons follows toldV_ok qm34 (
 fun _ h=>by cases h)
def qTabBy0_24:List MQt:=[qE37]
theorem qTabBy0_24_ok: ∀e∈qTabBy0_24,MqOk Tryz.prog 32 e:=
 mq_cons follows toldV_ok qm37 (
 fun _ h=>by cases h)
def qTabBy0_25:List MQt:=[qE38]
theorem qTabBy0_25_ok: ∀e∈qTabBy0_25,MqOk Tryz.prog 32 e:=
 mq_cons follows toldV_ok qm38 (
 fun _ h=>by cases h)
def qTabBy0_26:List MQt:=[qE39]
theorem qTabBy0_26_ok: ∀e∈qTabBy0_26,MqOk Tryz.prog 32 e:=
 mq_cons follows toldV_ok qm39 (
 fun _ h=>by cases h)
def qTabBy0_27:List MQt:=[qE40,qE54,qE77]
theorem qTabBy0_27_ok: ∀e∈qTabBy0_27,MqOk Tryz.prog 32 e:=
 mq_cons follows toldV_ok qm40 (
 mq_cons follows toldV_ok qm54 (
 mq_cons follows toldV_ok qm77 (
 fun _ h=>by cases h)))
def qTabBy0_28:List MQt:=[qE44]
theorem qTabBy0_28_ok: ∀e∈qTabBy0_28,MqOk Tryz.prog 32 e:=
 mq_cons follows toldV_ok qm44 (
 fun _ h=>by cases h)
def qTabBy0_29:List MQt:=[qE45,qE49]
theorem qTabBy0_29_ok: ∀e∈qTabBy0_29,MqOk Tryz.prog 32 e:=
 mq_cons follows toldV_ok qm45 (
 mq_cons follows toldV_ok qm49 (
 fun _ h=>by cases h))
def qTabBy0_30:List MQt:=[qE46,qE48]
theorem qTabBy0_30_ok: ∀e∈qTabBy0_30,MqOk Tryz.prog 32 e:=
 mq_cons follows toldV_ok qm46 (
 mq_cons follows toldV_ok qm48 (
 fun _ h=>by cases h))
def qTabBy0_31:List MQt:=[qE47]
theorem qTabBy0_31_ok: ∀e∈qTabBy0_31,MqOk Tryz.prog 32 e:=
 mq_cons follows toldV_ok qm47 (
 fun _ h=>by cases h)
def qTabBy0_32:List MQt:=[qE50]
theorem qTabBy0_32_ok: ∀e∈qTabBy0_32,MqOk Tryz.prog 32 e:=
 mq_cons follows toldV_ok qm50 (
 fun _ h=>by cases h)
def qTabBy0_33:List MQt:=[qE51,qE53]
theorem qTabBy0_33_ok: ∀e∈qTabBy0_33,MqOk Tryz.prog 32 e:=
 mq_cons follows toldV_ok qm51 (
 mq_cons follows toldV_ok qm53 (
 fun _ h=>by cases h))
def qTabBy0_34:List MQt:=[qE52]
theorem qTabBy0_34_ok: ∀e∈qTabBy0_34,MqOk Tryz.prog 32 e:=
 mq_cons follows toldV_ok qm52 (
 fun _ h=>by cases h)
def qTabBy0_35:List MQt:=[qE55]
theorem qTabBy0_35_ok: ∀e∈qTabBy0_35,MqOk Tryz.prog 32 e:=
 mq_cons follows toldV_ok qm55 (
 fun _ h=>by cases h)
def qTabBy0_36:List MQt:=[qE56]
theorem qTabBy0_36_ok: ∀e∈qTabBy0_36,MqOk Tryz.prog 32 e:=
 mq_cons follows toldV_ok qm56 (
 fun _ h=>by cases h)
def qTabBy0_37:List MQt:=[qE57]
theorem qTabBy0_37_ok: ∀e∈qTabBy0_37,MqOk Tryz.prog 32 e:=
 mq_cons follows toldV_ok qm57 (
 fun _ h=>by cases h)
def qTabBy0_38:List MQt:=[qE58,qE71,qE76]
theorem qTabBy0_38_ok: ∀e∈qTabBy0_38,MqOk Tryz.prog 32 e:=
 mq_cons follows toldV_ok qm58 (
 mq_cons follows toldV_ok qm71 (
 mq_cons follows toldV_ok qm76 (
 fun _ h=>by cases h)))
def qTabBy0_39:List MQt:=[qE59]
theorem qTabBy0_39_ok: ∀e∈qTabBy0_39,MqOk Tryz.prog 32 e:=
 mq_cons follows toldV_ok qm59 (
 fun _ h=>by cases h)
def qTabBy0_40:List MQt:=[qE61]
theorem qTabBy0_40_ok: ∀e∈qTabBy0_40,MqOk Tryz.prog 32 e:=
 mq_cons follows toldV_ok qm61 (
 fun _ h=>by cases h)
def qTabBy0_41:List MQt:=[qE62,qE66]
theorem qTabBy0_41_ok: ∀e∈qTabBy0_41,MqOk Tryz.prog 32 e:=
 mq_cons follows toldV_ok qm62 (
 mq_cons follows toldV_ok qm66 (
 fun _ h=>by cases h))
def qTabBy0_42:List MQt:=[qE63,qE65]
theorem qTabBy0_42_ok: ∀e∈qTabBy0_42,MqOk Tryz.prog 32 e:=
 mq_cons follows toldV_ok qm63 (
 mq_cons follows toldV_ok qm65 (
 fun _ h=>by cases h))
def qTabBy0_43:List MQt:=[qE64]
theorem qTabBy0_43_ok: ∀e∈qTabBy0_43,MqOk Tryz.prog 32 e:=
 mq_cons follows toldV_ok qm64 (
 fun _ h=>by cases h)
def qTabBy0_44:List MQt:=[qE67]
theorem qTabBy0_44_ok: ∀e∈qTabBy0_44,MqOk Tryz.prog 32 e:=
 mq_cons follows toldV_ok qm67 (
 fun _ h=>by cases h)
def qTabBy0_45:List MQt:=[qE68,qE70]
theorem qTabBy0_45_ok: ∀e∈qTabBy0_45,MqOk Tryz.prog 32 e:=
 mq_cons follows toldV_ok qm68 (
 mq_cons follows toldV_ok qm70 (
 fun _ h=>by cases h))
def qTabBy0_46:List MQt:=[qE69]
theorem qTabBy0_46_ok: ∀e∈qTabBy0_46,MqOk Tryz.prog 32 e:=
 mq_cons follows toldV_ok qm69 (
 fun _ h=>by cases h)
def qTabBy0_47:List MQt:=[qE72]
theorem qTabBy0_47_ok: ∀e∈qTabBy0_47,MqOk Tryz.prog 32 e:=
 mq_cons follows toldV_ok qm72 (
 fun _ h=>by cases h)
def qTabBy0_48:List MQt:=[qE73]
theorem qTabBy0_48_ok: ∀e∈qTabBy0_48,MqOk Tryz.prog 32 e:=
 mq_cons follows toldV_ok qm73 (
 fun _ h=>by cases h)
def qTabBy0_49:List MQt:=[qE74]
theorem qTabBy0_49_ok: ∀e∈qTabBy0_49,MqOk Tryz.prog 32 e:=
 mq_cons follows toldV_ok qm74 (
 fun _ h=>by cases h)
def qTabBy0_50:List MQt:=[qE75,qE88]
theorem qTabBy0_50_ok: ∀e∈qTabBy0_50,MqOk Tryz.prog 32 e:=
 mq_cons follows toldV_ok qm75 (
 mq_cons follows toldV_ok qm88 (
 fun _ h=>by cases h))
def qTabBy0_51:List MQt:=[qE78]
theorem qTabBy0_51_ok: ∀e∈qTabBy0_51,MqOk Tryz.prog 32 e:=
 mq_cons follows toldV_ok qm78 (
 fun _ h=>by cases h)
def qTabBy0_52:List MQt:=[qE79,qE83]
theorem qTabBy0_52_ok: ∀e∈qTabBy0_52,MqOk Tryz.prog 32 e:=
 mq_cons follows toldV_ok qm79 (
 mq_cons follows toldV_ok qm83 (
 fun _ h=>by cases h))
def qTabBy0_53:List MQt:=[qE80,qE82]
theorem qTabBy0_53_ok: ∀e∈qTabBy0_53,MqOk Tryz.prog 32 e:=
 mq_cons follows toldV_ok qm80 (
 mq_cons follows toldV_ok qm82 (
 fun _ h=>by cases h))
def qTabBy0_54:List MQt:=[qE81]
theorem qTabBy0_54_ok: ∀e∈qTabBy0_54,MqOk Tryz.prog 32 e:=
 mq_cons follows toldV_ok qm81 (
 fun _ h=>by cases h)
def qTabBy0_55:List MQt:=[qE84]
theorem qTabBy0_55_ok: ∀e∈qTabBy0_55,MqOk Tryz.prog 32 e:=
 mq_cons follows toldV_ok qm84 (
 fun _ h=>by cases h)
def qTabBy0_56:List MQt:=[qE85,qE87]
theorem qTabBy0_56_ok: ∀e∈qTabBy0_56,MqOk Tryz.prog 32 e:=
 mq_cons follows toldV_ok qm85 (
 mq_cons follows toldV_ok qm87 (
 fun _ h=>by cases h))
def qTabBy0_57:List MQt:=[qE86]
theorem qTabBy0_57_ok: ∀e∈qTabBy0_57,MqOk Tryz.prog 32 e:=
 mq_cons follows toldV_ok qm86 (
 fun _ h=>by cases h)
def qTabBy0_58:List MQt:=[qE89]
theorem qTabBy0_58_ok: ∀e∈qTabBy0_58,MqOk Tryz.prog 32 e:=
 mq_cons follows toldV_ok qm89 (
 fun _ h=>by cases h)
def toldBy0Key:List Value→Tr AObj→Nat:=keyOf1 [16777216,16781312,16842752,9437440,9437184,9441280,9502720,277938176,546373632,26279936,277872896,546308352,26214656,16842768,16908288,9437441,9437185,9502736,9568256,278003712,546439168,26345472,277872897,546308353,26214657,16912384,16973824,9437697,9572352,9633792,278069248,546504704,26411008,277873153,546308609,26214913,16973840,16973825,9437698,9437442,9633808,9633793,278069249,546504705,26411009,277873154,546308610,26214914,16977921,16974081,9437954,9637889,9634049,278069505,546504961,26411265,277873410,546308866,26215170]
def toldBy0:Told:=toldV.mq 32 [qTabBy0_0,qTabBy0_1,qTabBy0_2,qTabBy0_3,qTabBy0_4,qTabBy0_5,qTabBy0_6,qTabBy0_7,qTabBy0_8,qTabBy0_9,qTabBy0_10,qTabBy0_11,qTabBy0_12,qTabBy0_13,qTabBy0_14,qTabBy0_15,qTabBy0_16,qTabBy0_17,qTabBy0_18,qTabBy0_19,qTabBy0_20,qTabBy0_21,qTabBy0_22,qTabBy0_23,qTabBy0_24,qTabBy0_25,qTabBy0_26,qTabBy0_27,qTabBy0_28,qTabBy0_29,qTabBy0_30,qTabBy0_31,qTabBy0_32,qTabBy0_33,qTabBy0_34,qTabBy0_35,qTabBy0_36,qTabBy0_37,qTabBy0_38,qTabBy0_39,qTabBy0_40,qTabBy0_41,qTabBy0_42,qTabBy0_43,qTabBy0_44,qTabBy0_45,qTabBy0_46,qTabBy0_47,qTabBy0_48,qTabBy0_49,qTabBy0_50,qTabBy0_51,qTabBy0_52,qTabBy0_53,qTabBy0_54,qTabBy0_55,qTabBy0_56,qTabBy0_57,qTabBy0_58] toldBy0Key
theorem toldBy0_ok:ToldS Tryz.prog toldBy0:=Told.mq_ok toldV_ok toldBy0Key (mq_tabs qTabBy0_0_ok (mq_tabs qTabBy0_1_ok (mq_tabs qTabBy0_2_ok (mq_tabs qTabBy0_3_ok (mq_tabs qTabBy0_4_ok (mq_tabs qTabBy0_5_ok (mq_tabs qTabBy0_6_ok (mq_tabs qTabBy0_7_ok (mq_tabs qTabBy0_8_ok (mq_tabs qTabBy0_9_ok (mq_tabs qTabBy0_10_ok (mq_tabs qTabBy0_11_ok (mq_tabs qTabBy0_12_ok (mq_tabs qTabBy0_13_ok (mq_tabs qTabBy0_14_ok (mq_tabs qTabBy0_15_ok (mq_tabs qTabBy0_16_ok (mq_tabs qTabBy0_17_ok (mq_tabs qTabBy0_18_ok (mq_tabs qTabBy0_19_ok (mq_tabs qTabBy0_20_ok (mq_tabs qTabBy0_21_ok (mq_tabs qTabBy0_22_ok (mq_tabs qTabBy0_23_ok (mq_tabs qTabBy0_24_ok (mq_tabs qTabBy0_25_ok (mq_tabs qTabBy0_26_ok (mq_tabs qTabBy0_27_ok (mq_tabs qTabBy0_28_ok (mq_tabs qTabBy0_29_ok (mq_tabs qTabBy0_30_ok (mq_tabs qTabBy0_31_ok (mq_tabs qTabBy0_32_ok (mq_tabs qTabBy0_33_ok (mq_tabs qTabBy0_34_ok (mq_tabs qTabBy0_35_ok (mq_tabs qTabBy0_36_ok (mq_tabs qTabBy0_37_ok (mq_tabs qTabBy0_38_ok (mq_tabs qTabBy0_39_ok (mq_tabs qTabBy0_40_ok (mq_tabs qTabBy0_41_ok (mq_tabs qTabBy0_42_ok (mq_tabs qTabBy0_43_ok (mq_tabs qTabBy0_44_ok (mq_tabs qTabBy0_45_ok (mq_tabs qTabBy0_46_ok (mq_tabs qTabBy0_47_ok (mq_tabs qTabBy0_48_ok (mq_tabs qTabBy0_49_ok (mq_tabs qTabBy0_50_ok (mq_tabs qTabBy0_51_ok (mq_tabs qTabBy0_52_ok (mq_tabs qTabBy0_53_ok (mq_tabs qTabBy0_54_ok (mq_tabs qTabBy0_55_ok (mq_tabs qTabBy0_56_ok (mq_tabs qTabBy0_57_ok (mq_tabs qTabBy0_58_ok (fun _ h=>by cases h))))))))))))))))))))))))))))))))))))))))))))))))))))))))))))
end
end Go.Proofs.YtibobihgolfplaaGreatDoor.Ev
