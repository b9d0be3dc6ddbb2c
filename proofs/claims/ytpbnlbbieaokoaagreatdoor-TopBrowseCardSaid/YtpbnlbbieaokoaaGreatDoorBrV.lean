/-
  Other functions at all these places.
-/
import Derived.Test.YtpbnlbbieaokoaaGreatDoorBrM
import Derived.Test.YtpbnlbbieaokoaaGreatDoorBru0
import Derived.Test.YtpbnlbbieaokoaaGreatDoorBru1
import Derived.Test.YtpbnlbbieaokoaaGreatDoorBru2
set_option maxRecDepth 1000000
namespace Go.Proofs.YtpbnlbbieaokoaaGreatDoor.Ev
open Go
theorem qTab13_ok : ∀ e ∈ qTab13, e.objs.all isCells = true ∧ e.news.all isCells = true ∧ MpOk Tryz.prog 13 e :=
  mp_cons follows toldV_ok qg13_0 (
  fun _ h => by cases h)
theorem qTab18_ok : ∀ e ∈ qTab18, e.objs.all isCells = true ∧ e.news.all isCells = true ∧ MpOk Tryz.prog 18 e :=
  mp_cons follows toldV_ok qg18_0 (
  mp_cons follows toldV_ok qg18_1 (
  mp_cons follows toldV_ok qg18_2 (
  mp_cons follows toldV_ok qg18_3 (
  mp_cons follows toldV_ok qg18_4 (
  mp_cons follows toldV_ok qg18_5 (
  mp_cons follows toldV_ok qg18_6 (
  mp_cons follows toldV_ok qg18_7 (
  mp_cons follows toldV_ok qg18_8 (
  mp_cons follows toldV_ok qg18_9 (
  mp_cons follows toldV_ok qg18_10 (
  mp_cons follows toldV_ok qg18_11 (
  mp_cons follows toldV_ok qg18_12 (
  mp_cons follows toldV_ok qg18_13 (
  mp_cons follows toldV_ok qg18_14 (
  mp_cons follows toldV_ok qg18_15 (
  fun _ h => by cases h))))))))))))))))
theorem qTab19_ok : ∀ e ∈ qTab19, e.objs.all isCells = true ∧ e.news.all isCells = true ∧ MpOk Tryz.prog 19 e :=
  mp_cons follows toldV_ok qg19_0 (
  mp_cons follows toldV_ok qg19_1 (
  mp_cons follows toldV_ok qg19_2 (
  mp_cons follows toldV_ok qg19_3 (
  mp_cons follows toldV_ok qg19_4 (
  mp_cons follows toldV_ok qg19_5 (
  mp_cons follows toldV_ok qg19_6 (
  mp_cons follows toldV_ok qg19_7 (
  mp_cons follows toldV_ok qg19_8 (
  mp_cons follows toldV_ok qg19_9 (
  mp_cons follows toldV_ok qg19_10 (
  mp_cons follows toldV_ok qg19_11 (
  mp_cons follows toldV_ok qg19_12 (
  mp_cons follows toldV_ok qg19_13 (
  mp_cons follows toldV_ok qg19_14 (
  mp_cons follows toldV_ok qg19_15 (
  fun _ h => by cases h))))))))))))))))
theorem qTab20_ok : ∀ e ∈ qTab20, e.objs.all isCells = true ∧ e.news.all isCells = true ∧ MpOk Tryz.prog 20 e :=
  mp_cons follows toldV_ok qg20_0 (
  mp_cons follows toldV_ok qg20_1 (
  mp_cons follows toldV_ok qg20_2 (
  mp_cons follows toldV_ok qg20_3 (
  mp_cons follows toldV_ok qg20_4 (
  mp_cons follows toldV_ok qg20_5 (
  mp_cons follows toldV_ok qg20_6 (
  mp_cons follows toldV_ok qg20_7 (
  mp_cons follows toldV_ok qg20_8 (
  fun _ h => by cases h)))))))))
theorem qTab21_ok : ∀ e ∈ qTab21, e.objs.all isCells = true ∧ e.news.all isCells = true ∧ MpOk Tryz.prog 21 e :=
  mp_cons follows toldV_ok qg21_0 (
  mp_cons follows toldV_ok qg21_1 (
  mp_cons follows toldV_ok qg21_2 (
  mp_cons follows toldV_ok qg21_3 (
  mp_cons follows toldV_ok qg21_4 (
  mp_cons follows toldV_ok qg21_5 (
  mp_cons follows toldV_ok qg21_6 (
  mp_cons follows toldV_ok qg21_7 (
  mp_cons follows toldV_ok qg21_8 (
  mp_cons follows toldV_ok qg21_9 (
  mp_cons follows toldV_ok qg21_10 (
  fun _ h => by cases h)))))))))))
end Go.Proofs.YtpbnlbbieaokoaaGreatDoor.Ev
