/-
  What ctrl.New answers for TopBlocks's texts. (Printed by tools/tkgen.py.)
-/
import Derived.Test.YthajddbhjdkmnaaGreatDoorGg
import Derived.Test.YthajddbhjdkmnaaGreatDoorVb
set_option linter.unusedVariables false
namespace Go.Proofs.YthajddbhjdkmnaaGreatDoor.Ev
open Go
def tkArgs (k : Nat) : List Value := [.string ⟨#[105, 110, 32, 97, 32, 58, 32, 98, 111, 111, 108, 59, 32, 111, 117, 116, 32, 113, 32, 58, 32, 98, 111, 111, 108, 59, 32, 118, 97, 114, 32, 116, 32, 58, 32, 116, 111, 110, 59, 32, 118, 97, 114, 32, 110, 32, 58, 32, 99, 116, 117, 59, 32, 116, 40, 97, 44, 32, UInt8.ofNat (48 + k / 10), UInt8.ofNat (48 + k % 10), 109, 115, 41, 59, 32, 113, 32, 58, 61, 32, 116, 46, 113, 59, 32, 110, 40, 97, 44, 32, 51, 41, 59]⟩, qi 100]
def tkNm : List Nat := [1000, 1179, 1487, 1489, 1491, 1494, 1496, 1025, 1172]
def tkR : Value := .tuple ⟨[.agg ⟨[qs 0 4 4, qs 1 3 3, qs 2 4 4, qs 3 9 9, qi 100, qs 4 9 9, qi 0, q0, q0, qi 0, qi 0, .bool true, qi 0, qi 0, qi 0, qi 0, qs 5 4 4, q0, qs 6 9 9]⟩, qi 0, qi 0]⟩
def tkO (lt : Int) : List AObj := [.cells [.string ⟨#[97]⟩, qi 1, qi 1, qi 0, qi 1, qi 0, qf, qi 0, qi 0, qf, .string ⟨#[113]⟩, qi 2, qi 1, qi 0, qi 1, qi 0, qf, qi 1, qi 0, qf, .string ⟨#[116]⟩, qi 3, qi 6, qi 0, qi 0, qi 0, qf, qi 0, qi 0, qf, .string ⟨#[110]⟩, qi 3, qi 9, qi 0, qi 0, qi 0, qf, qi 0, qi 0, qf] false 10,
  .cells [qi 4, qi 0, qi 0, qe, qe, qi 0, qi 0, qi 0, qi 0, qf, q0, qi 0, qi 0, qe, qe, qi 0, qi 0, qi 0, qi 0, qf, q0, q0, q0, .string ⟨#[116]⟩, qi 6, qi 2, qs 7 2 2, qi 1, qi 2, qi 1, .string ⟨#[113]⟩, qe, qi 1, qi 0, qi 0, qi 0, qf, q0, qi 2, qi 1, .string ⟨#[116]⟩, .string ⟨#[113]⟩, qi 2, qi 0, qi 0, qi 0, qf, q0, q0, q0, qe, qi 0, qi 0, q0, qi 4, qi 0, qi 0, qe, qe, qi 0, qi 0, qi 0, qi 0, qf, q0, qi 0, qi 0, qe, qe, qi 0, qi 0, qi 0, qi 0, qf, q0, q0, q0, .string ⟨#[110]⟩, qi 9, qi 6, qs 8 2 2] false 27,
  .cells [.string ⟨#[97]⟩, qi 1, qi 1, qi 0, qi 1, qi 0, qf, qi 0, qi 0, qf, .string ⟨#[113]⟩, qi 2, qi 1, qi 0, qi 1, qi 0, qf, qi 1, qi 0, qf, .string ⟨#[116]⟩, qi 3, qi 6, qi 0, qi 0, qi 0, qf, qi 0, qi 0, qf, .string ⟨#[110]⟩, qi 3, qi 9, qi 0, qi 0, qi 0, qf, qi 0, qi 0, qf] false 10,
  .cells [qi 2, qi 0, qi 0, qi 0, qi 0, qi 0, qf, qi 1, qi 4, qi 0, qi 0, qi 4, .int .i64 lt, qf, qi 22, qi 6, qi 2, qi 2, qi 0, qi 0, qf, qi 2, qi 0, qi 2, qi 0, qi 0, qi 0, qf, qi 18, qi 0, qi 1, qi 0, qi 0, qi 0, qf, qi 2, qi 0, qi 0, qi 0, qi 0, qi 0, qf, qi 1, qi 2, qi 0, qi 0, qi 2, qi 3, qf, qi 22, qi 9, qi 6, qi 2, qi 0, qi 0, qf, qi 23, qi 0, qi 0, qi 0, qi 0, qi 0, qf] false 7,
  .cells [qi 1, qi 0, qf, qi 1, qi 0, qf, qi 1, qi 0, qf, qi 4, qi 0, qf, qi 1, qi 0, qf, qi 4, qi 0, qf, qi 1, qi 0, qf, qi 2, qi 0, qf, qi 1, qi 0, qf] false 3,
  .cells [.bool false, qi 0, q0, .bool false, q0, q0, q0, qi 0, .bool false, qi 0, q0, .bool false, q0, q0, q0, qi 0, .bool false, qi 0, q0, .bool false, q0, q0, q0, qi 0, .bool false, qi 0, q0, .bool false, q0, q0, q0, qi 0] true 8,
  .cells [qi 1, qi 0, qf, qi 1, qi 0, qf, qi 1, qi 0, qf, qi 4, qi 0, qf, qi 1, qi 0, qf, qi 4, qi 0, qf, qi 1, qi 0, qf, qi 2, qi 0, qf, qi 1, qi 0, qf] false 3,
  .cells [qi 2, qi 1, .string ⟨#[97]⟩, qe, qi 0, qi 0, qi 0, qi 0, qf, q0, qi 1, qi 4, qe, qe, qi 0, qi 0, qi 4, .int .i64 lt, qf, q0] false 10,
  .cells [qi 2, qi 1, .string ⟨#[97]⟩, qe, qi 0, qi 0, qi 0, qi 0, qf, q0, qi 1, qi 2, qe, qe, qi 0, qi 0, qi 2, qi 3, qf, q0] false 10]
noncomputable def TkPt (k : Nat) : Prop := ptB Tryz.prog toldH 5 (tkArgs k) tkNm tkR (tkO (.ofNat k)) = true
end Go.Proofs.YthajddbhjdkmnaaGreatDoor.Ev
