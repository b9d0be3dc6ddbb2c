/-
  ctrl.Do at all these places.
-/
import Derived.Test.YtpbnlbbieaokoaaGreatDoorBr0
import Derived.Test.YtpbnlbbieaokoaaGreatDoorBr1
import Derived.Test.YtpbnlbbieaokoaaGreatDoorBr2
import Derived.Test.YtpbnlbbieaokoaaGreatDoorBr3
import Derived.Test.YtpbnlbbieaokoaaGreatDoorBr4
import Derived.Test.YtpbnlbbieaokoaaGreatDoorBr5
import Derived.Test.YtpbnlbbieaokoaaGreatDoorBr6
import Derived.Test.YtpbnlbbieaokoaaGreatDoorBr7
import Derived.Test.YtpbnlbbieaokoaaGreatDoorBr8
import Derived.Test.YtpbnlbbieaokoaaGreatDoorBr9
set_option maxRecDepth 1000000
namespace Go.Proofs.YtpbnlbbieaokoaaGreatDoor.Ev
open Go
theorem mp_cons {P : Program} {C : Told} (hm : P.follows .mixedOrders = true) (hC : ToldS P C) {g : FuncId} {e : MPt} {l : List MPt} {nm : List Nat} (h : mpB P C g e nm = true) (hl : ∀ e ∈ l, e.objs.all isCells = true ∧ e.news.all isCells = true ∧ MpOk P g e) : ∀ x ∈ e :: l, x.objs.all isCells = true ∧ x.news.all isCells = true ∧ MpOk P g x := by
  intro x hx
  rcases List.mem_cons.1 hx with rfl | hx
  · exact mp_ok hm hC h
  · exact hl x hx
theorem qTab_ok : ∀ e ∈ qTab, e.objs.all isCells = true ∧ e.news.all isCells = true ∧ MpOk Tryz.prog 17 e :=
  mp_cons follows toldV_ok qm0 (
  mp_cons follows toldV_ok qm1 (
  mp_cons follows toldV_ok qm2 (
  mp_cons follows toldV_ok qm3 (
  mp_cons follows toldV_ok qm4 (
  mp_cons follows toldV_ok qm5 (
  mp_cons follows toldV_ok qm6 (
  mp_cons follows toldV_ok qm7 (
  mp_cons follows toldV_ok qm8 (
  mp_cons follows toldV_ok qm9 (
  mp_cons follows toldV_ok qm10 (
  mp_cons follows toldV_ok qm11 (
  mp_cons follows toldV_ok qm12 (
  mp_cons follows toldV_ok qm13 (
  mp_cons follows toldV_ok qm14 (
  mp_cons follows toldV_ok qm15 (
  mp_cons follows toldV_ok qm16 (
  mp_cons follows toldV_ok qm17 (
  mp_cons follows toldV_ok qm18 (
  mp_cons follows toldV_ok qm19 (
  mp_cons follows toldV_ok qm20 (
  mp_cons follows toldV_ok qm21 (
  mp_cons follows toldV_ok qm22 (
  mp_cons follows toldV_ok qm23 (
  mp_cons follows toldV_ok qm24 (
  mp_cons follows toldV_ok qm25 (
  mp_cons follows toldV_ok qm26 (
  mp_cons follows toldV_ok qm27 (
  mp_cons follows toldV_ok qm28 (
  mp_cons follows toldV_ok qm29 (
  mp_cons follows toldV_ok qm30 (
  mp_cons follows toldV_ok qm31 (
  mp_cons follows toldV_ok qm32 (
  mp_cons follows toldV_ok qm33 (
  mp_cons follows toldV_ok qm34 (
  mp_cons follows toldV_ok qm35 (
  mp_cons follows toldV_ok qm36 (
  mp_cons follows toldV_ok qm37 (
  mp_cons follows toldV_ok qm38 (
  mp_cons follows toldV_ok qm39 (
  mp_cons follows toldV_ok qm40 (
  mp_cons follows toldV_ok qm41 (
  mp_cons follows toldV_ok qm42 (
  mp_cons follows toldV_ok qm43 (
  mp_cons follows toldV_ok qm44 (
  mp_cons follows toldV_ok qm45 (
  mp_cons follows toldV_ok qm46 (
  mp_cons follows toldV_ok qm47 (
  mp_cons follows toldV_ok qm48 (
  mp_cons follows toldV_ok qm49 (
  mp_cons follows toldV_ok qm50 (
  mp_cons follows toldV_ok qm51 (
  mp_cons follows toldV_ok qm52 (
  mp_cons follows toldV_ok qm53 (
  mp_cons follows toldV_ok qm54 (
  mp_cons follows toldV_ok qm55 (
  mp_cons follows toldV_ok qm56 (
  mp_cons follows toldV_ok qm57 (
  mp_cons follows toldV_ok qm58 (
  mp_cons follows toldV_ok qm59 (
  mp_cons follows toldV_ok qm60 (
  mp_cons follows toldV_ok qm61 (
  mp_cons follows toldV_ok qm62 (
  mp_cons follows toldV_ok qm63 (
  mp_cons follows toldV_ok qm64 (
  mp_cons follows toldV_ok qm65 (
  mp_cons follows toldV_ok qm66 (
  mp_cons follows toldV_ok qm67 (
  mp_cons follows toldV_ok qm68 (
  mp_cons follows toldV_ok qm69 (
  mp_cons follows toldV_ok qm70 (
  mp_cons follows toldV_ok qm71 (
  mp_cons follows toldV_ok qm72 (
  mp_cons follows toldV_ok qm73 (
  mp_cons follows toldV_ok qm74 (
  mp_cons follows toldV_ok qm75 (
  mp_cons follows toldV_ok qm76 (
  mp_cons follows toldV_ok qm77 (
  mp_cons follows toldV_ok qm78 (
  mp_cons follows toldV_ok qm79 (
  mp_cons follows toldV_ok qm80 (
  mp_cons follows toldV_ok qm81 (
  mp_cons follows toldV_ok qm82 (
  mp_cons follows toldV_ok qm83 (
  mp_cons follows toldV_ok qm84 (
  mp_cons follows toldV_ok qm85 (
  mp_cons follows toldV_ok qm86 (
  mp_cons follows toldV_ok qm87 (
  mp_cons follows toldV_ok qm88 (
  mp_cons follows toldV_ok qm89 (
  mp_cons follows toldV_ok qm90 (
  mp_cons follows toldV_ok qm91 (
  mp_cons follows toldV_ok qm92 (
  mp_cons follows toldV_ok qm93 (
  mp_cons follows toldV_ok qm94 (
  mp_cons follows toldV_ok qm95 (
  mp_cons follows toldV_ok qm96 (
  mp_cons follows toldV_ok qm97 (
  mp_cons follows toldV_ok qm98 (
  mp_cons follows toldV_ok qm99 (
  mp_cons follows toldV_ok qm100 (
  mp_cons follows toldV_ok qm101 (
  mp_cons follows toldV_ok qm102 (
  mp_cons follows toldV_ok qm103 (
  mp_cons follows toldV_ok qm104 (
  mp_cons follows toldV_ok qm105 (
  mp_cons follows toldV_ok qm106 (
  mp_cons follows toldV_ok qm107 (
  mp_cons follows toldV_ok qm108 (
  mp_cons follows toldV_ok qm109 (
  mp_cons follows toldV_ok qm110 (
  mp_cons follows toldV_ok qm111 (
  mp_cons follows toldV_ok qm112 (
  mp_cons follows toldV_ok qm113 (
  mp_cons follows toldV_ok qm114 (
  mp_cons follows toldV_ok qm115 (
  mp_cons follows toldV_ok qm116 (
  mp_cons follows toldV_ok qm117 (
  mp_cons follows toldV_ok qm118 (
  mp_cons follows toldV_ok qm119 (
  mp_cons follows toldV_ok qm120 (
  mp_cons follows toldV_ok qm121 (
  mp_cons follows toldV_ok qm122 (
  mp_cons follows toldV_ok qm123 (
  mp_cons follows toldV_ok qm124 (
  mp_cons follows toldV_ok qm125 (
  mp_cons follows toldV_ok qm126 (
  mp_cons follows toldV_ok qm127 (
  mp_cons follows toldV_ok qm128 (
  mp_cons follows toldV_ok qm129 (
  mp_cons follows toldV_ok qm130 (
  mp_cons follows toldV_ok qm131 (
  mp_cons follows toldV_ok qm132 (
  mp_cons follows toldV_ok qm133 (
  mp_cons follows toldV_ok qm134 (
  mp_cons follows toldV_ok qm135 (
  mp_cons follows toldV_ok qm136 (
  mp_cons follows toldV_ok qm137 (
  mp_cons follows toldV_ok qm138 (
  mp_cons follows toldV_ok qm139 (
  mp_cons follows toldV_ok qm140 (
  mp_cons follows toldV_ok qm141 (
  mp_cons follows toldV_ok qm142 (
  mp_cons follows toldV_ok qm143 (
  mp_cons follows toldV_ok qm144 (
  mp_cons follows toldV_ok qm145 (
  mp_cons follows toldV_ok qm146 (
  mp_cons follows toldV_ok qm147 (
  mp_cons follows toldV_ok qm148 (
  mp_cons follows toldV_ok qm149 (
  mp_cons follows toldV_ok qm150 (
  mp_cons follows toldV_ok qm151 (
  mp_cons follows toldV_ok qm152 (
  mp_cons follows toldV_ok qm153 (
  mp_cons follows toldV_ok qm154 (
  mp_cons follows toldV_ok qm155 (
  mp_cons follows toldV_ok qm156 (
  mp_cons follows toldV_ok qm157 (
  mp_cons follows toldV_ok qm158 (
  mp_cons follows toldV_ok qm159 (
  fun _ h => by cases h))))))))))))))))))))))))))))))))))))))))))))))))))))))))))))))))))))))))))))))))))))))))))))))))))))))))))))))))))))))))))))))))))))))))))))))))))))))))))))))))
end Go.Proofs.YtpbnlbbieaokoaaGreatDoor.Ev
