/-
  Small functions, told at the places at which they are asked: what they answer there (TopReals).
-/
import Derived.Test.YtpogcoolgnjejaaGreatDoorGk
set_option maxRecDepth 1000000
namespace Go.Proofs.YtpogcoolgnjejaaGreatDoor.Ev
open Go
def va_a : Value := .agg #[.string ⟨#[97]⟩, .int .i64 (.ofNat 1), .int .i64 (.ofNat 2), .int .i64 (.ofNat 0), .int .i64 (.ofNat 2), .int .i64 (.ofNat 0), .float .f64 0, .int .i64 (.ofNat 0), .int .i64 (.ofNat 0), .float .f64 0]
def va_b : Value := .agg #[.string ⟨#[98]⟩, .int .i64 (.ofNat 1), .int .i64 (.ofNat 1), .int .i64 (.ofNat 0), .int .i64 (.ofNat 1), .int .i64 (.ofNat 0), .float .f64 0, .int .i64 (.ofNat 0), .int .i64 (.ofNat 0), .float .f64 0]
def va_o : Value := .agg #[.string ⟨#[111]⟩, .int .i64 (.ofNat 2), .int .i64 (.ofNat 2), .int .i64 (.ofNat 0), .int .i64 (.ofNat 2), .int .i64 (.ofNat 1), .float .f64 0, .int .i64 (.ofNat 2), .int .i64 (.ofNat 9), .float .f64 0]
def va_n : Value := .agg #[.string ⟨#[110]⟩, .int .i64 (.ofNat 3), .int .i64 (.ofNat 2), .int .i64 (.ofNat 0), .int .i64 (.ofNat 2), .int .i64 (.ofNat 0), .float .f64 0, .int .i64 (.ofNat 0), .int .i64 (.ofNat 0), .float .f64 0]
def va_x : Value := .agg #[.string ⟨#[120]⟩, .int .i64 (.ofNat 3), .int .i64 (.ofNat 2), .int .i64 (.ofNat 0), .int .i64 (.ofNat 2), .int .i64 (.ofNat 0), .float .f64 0, .int .i64 (.ofNat 0), .int .i64 (.ofNat 0), .float .f64 0]
def va_r : Value := .agg #[.string ⟨#[114]⟩, .int .i64 (.ofNat 3), .int .i64 (.ofNat 5), .int .i64 (.ofNat 0), .int .i64 (.ofNat 5), .int .i64 (.ofNat 0), .float .f64 0, .int .i64 (.ofNat 0), .int .i64 (.ofNat 0), .float .f64 0]
def va_k : Value := .agg #[.string ⟨#[107]⟩, .int .i64 (.ofNat 3), .int .i64 (.ofNat 2), .int .i64 (.ofNat 3), .int .i64 (.ofNat 2), .int .i64 (.ofNat 0), .float .f64 0, .int .i64 (.ofNat 0), .int .i64 (.ofNat 0), .float .f64 0]
def vb_s : Value := .agg #[.string ⟨#[115]⟩, .int .i64 (.ofNat 3), .int .i64 (.ofNat 5), .int .i64 (.ofNat 0), .int .i64 (.ofNat 5), .int .i64 (.ofNat 0), .float .f64 0, .int .i64 (.ofNat 0), .int .i64 (.ofNat 0), .float .f64 0]
def nilS : Value := .slice none 0 0
def sesE (on : Bool) : Value := .agg #[.bool on, .int .i64 (.ofNat 0), .slice none 0 0, .bool false, .slice none 0 0, .slice none 0 0, .slice none 0 0, .int .i64 (.ofNat 0)]
def tab_may : List (List Value × Value) := [([va_a], .bool true), ([va_b], .bool true), ([va_o], .bool true), ([va_n], .bool true), ([va_x], .bool true), ([va_r], .bool true), ([va_k], .bool true), ([vb_s], .bool true)]
def tab_wid : List (List Value × Value) := [([va_a], .int .i64 (.ofNat 1)), ([va_b], .int .i64 (.ofNat 1)), ([va_o], .int .i64 (.ofNat 1)), ([va_n], .int .i64 (.ofNat 1)), ([va_x], .int .i64 (.ofNat 1)), ([va_r], .int .i64 (.ofNat 1)), ([va_k], .int .i64 (.ofNat 3)), ([vb_s], .int .i64 (.ofNat 1))]
def tab_look : List (List Value × Value) := [([sesE false, nilS, .int .i64 (.ofNat 0)], sesE false), ([sesE true, nilS, .int .i64 (.ofNat 0)], sesE true)]
def tab_exN : List (List Value × Value) := [([nilS], nilS)]
def tab_stN_ : List (List Value × Value) := [([nilS], nilS)]
noncomputable def toldV1 : Told := toldB.pts Tryz.prog 62 tab_may
theorem toldV1_ran : ptsB Tryz.prog toldB 62 tab_may = true := by kernel_rfl
theorem toldV1_ok : ToldS Tryz.prog toldV1 := Told.pts_ok follows toldB_ok fun p hp => by
  obtain ⟨h1, h2⟩ := ptsB_ok follows toldB_ok toldV1_ran p hp
  refine ⟨h1, fun n => ?_, h2⟩
  simp only [tab_may, List.mem_cons, List.mem_nil_iff, or_false] at hp
  rcases hp with rfl | rfl | rfl | rfl | rfl | rfl | rfl | rfl <;> rfl
noncomputable def toldV2 : Told := toldV1.pts Tryz.prog 63 tab_wid
theorem toldV2_ran : ptsB Tryz.prog toldV1 63 tab_wid = true := by kernel_rfl
theorem toldV2_ok : ToldS Tryz.prog toldV2 := Told.pts_ok follows toldV1_ok fun p hp => by
  obtain ⟨h1, h2⟩ := ptsB_ok follows toldV1_ok toldV2_ran p hp
  refine ⟨h1, fun n => ?_, h2⟩
  simp only [tab_wid, List.mem_cons, List.mem_nil_iff, or_false] at hp
  rcases hp with rfl | rfl | rfl | rfl | rfl | rfl | rfl | rfl <;> rfl
noncomputable def toldV3 : Told := toldV2.pts Tryz.prog 87 tab_look
theorem toldV3_ran : ptsB Tryz.prog toldV2 87 tab_look = true := by kernel_rfl
theorem toldV3_ok : ToldS Tryz.prog toldV3 := Told.pts_ok follows toldV2_ok fun p hp => by
  obtain ⟨h1, h2⟩ := ptsB_ok follows toldV2_ok toldV3_ran p hp
  refine ⟨h1, fun n => ?_, h2⟩
  simp only [tab_look, List.mem_cons, List.mem_nil_iff, or_false] at hp
  rcases hp with rfl | rfl <;> rfl
noncomputable def toldV4 : Told := toldV3.pts Tryz.prog 144 tab_exN
theorem toldV4_ran : ptsB Tryz.prog toldV3 144 tab_exN = true := by kernel_rfl
theorem toldV4_ok : ToldS Tryz.prog toldV4 := Told.pts_ok follows toldV3_ok fun p hp => by
  obtain ⟨h1, h2⟩ := ptsB_ok follows toldV3_ok toldV4_ran p hp
  refine ⟨h1, fun n => ?_, h2⟩
  simp only [tab_exN, List.mem_cons, List.mem_nil_iff, or_false] at hp
  rcases hp with rfl <;> rfl
noncomputable def toldV5 : Told := toldV4.pts Tryz.prog 144 tab_exN
theorem toldV5_ran : ptsB Tryz.prog toldV4 144 tab_exN = true := by kernel_rfl
theorem toldV5_ok : ToldS Tryz.prog toldV5 := Told.pts_ok follows toldV4_ok fun p hp => by
  obtain ⟨h1, h2⟩ := ptsB_ok follows toldV4_ok toldV5_ran p hp
  refine ⟨h1, fun n => ?_, h2⟩
  simp only [tab_exN, List.mem_cons, List.mem_nil_iff, or_false] at hp
  rcases hp with rfl <;> rfl
noncomputable def toldV6 : Told := toldV5.pts Tryz.prog 85 tab_stN_
theorem toldV6_ran : ptsB Tryz.prog toldV5 85 tab_stN_ = true := by kernel_rfl
theorem toldV6_ok : ToldS Tryz.prog toldV6 := Told.pts_ok follows toldV5_ok fun p hp => by
  obtain ⟨h1, h2⟩ := ptsB_ok follows toldV5_ok toldV6_ran p hp
  refine ⟨h1, fun n => ?_, h2⟩
  simp only [tab_stN_, List.mem_cons, List.mem_nil_iff, or_false] at hp
  rcases hp with rfl <;> rfl
noncomputable def toldV7 : Told := toldV6.pts Tryz.prog 85 tab_stN_
theorem toldV7_ran : ptsB Tryz.prog toldV6 85 tab_stN_ = true := by kernel_rfl
theorem toldV7_ok : ToldS Tryz.prog toldV7 := Told.pts_ok follows toldV6_ok fun p hp => by
  obtain ⟨h1, h2⟩ := ptsB_ok follows toldV6_ok toldV7_ran p hp
  refine ⟨h1, fun n => ?_, h2⟩
  simp only [tab_stN_, List.mem_cons, List.mem_nil_iff, or_false] at hp
  rcases hp with rfl <;> rfl
noncomputable def toldV8 : Told := toldV7.pts Tryz.prog 85 tab_stN_
theorem toldV8_ran : ptsB Tryz.prog toldV7 85 tab_stN_ = true := by kernel_rfl
theorem toldV8_ok : ToldS Tryz.prog toldV8 := Told.pts_ok follows toldV7_ok fun p hp => by
  obtain ⟨h1, h2⟩ := ptsB_ok follows toldV7_ok toldV8_ran p hp
  refine ⟨h1, fun n => ?_, h2⟩
  simp only [tab_stN_, List.mem_cons, List.mem_nil_iff, or_false] at hp
  rcases hp with rfl <;> rfl
noncomputable def toldV : Told := toldV8
theorem toldV_ok : ToldS Tryz.prog toldV := toldV8_ok
end Go.Proofs.YtpogcoolgnjejaaGreatDoor.Ev
