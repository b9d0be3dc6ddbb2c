/-
  TopBlocks at the head of its loop. (Printed by tools/tk.py.)
-/
import Derived.Test.YthajddbhjdkmnaaGreatDoorTkN
import Derived.Test.YthajddbhjdkmnaaGreatDoorGh
set_option linter.unusedVariables false
namespace Go.Proofs.YthajddbhjdkmnaaGreatDoor.Ev
open Go
def qI (x : Int) : Value := .int .i64 x
def tkS0 (lt : Int) : AObj := .cells [.string ⟨#[97]⟩, qi 1, qi 1, qi 0, qi 1, qi 0, qf, qi 0, qi 0, qf, .string ⟨#[113]⟩, qi 2, qi 1, qi 0, qi 1, qi 0, qf, qi 1, qi 0, qf, .string ⟨#[116]⟩, qi 3, qi 6, qi 0, qi 0, qi 0, qf, qi 0, qi 0, qf, .string ⟨#[110]⟩, qi 3, qi 9, qi 0, qi 0, qi 0, qf, qi 0, qi 0, qf] false 10
def tkS1 (lt : Int) : AObj := .cells [qi 4, qi 0, qi 0, qe, qe, qi 0, qi 0, qi 0, qi 0, qf, q0, qi 0, qi 0, qe, qe, qi 0, qi 0, qi 0, qi 0, qf, q0, q0, q0, .string ⟨#[116]⟩, qi 6, qi 2, qs 4 2 2, qi 1, qi 2, qi 1, .string ⟨#[113]⟩, qe, qi 1, qi 0, qi 0, qi 0, qf, q0, qi 2, qi 1, .string ⟨#[116]⟩, .string ⟨#[113]⟩, qi 2, qi 0, qi 0, qi 0, qf, q0, q0, q0, qe, qi 0, qi 0, q0, qi 4, qi 0, qi 0, qe, qe, qi 0, qi 0, qi 0, qi 0, qf, q0, qi 0, qi 0, qe, qe, qi 0, qi 0, qi 0, qi 0, qf, q0, q0, q0, .string ⟨#[110]⟩, qi 9, qi 6, qs 5 2 2] false 27
def tkS2 (lt : Int) : AObj := .cells [qi 2, qi 1, .string ⟨#[97]⟩, qe, qi 0, qi 0, qi 0, qi 0, qf, q0, qi 1, qi 4, qe, qe, qi 0, qi 0, qi 4, qI lt, qf, q0] false 10
def tkS3 (lt : Int) : AObj := .cells [qi 2, qi 1, .string ⟨#[97]⟩, qe, qi 0, qi 0, qi 0, qi 0, qf, q0, qi 1, qi 2, qe, qe, qi 0, qi 0, qi 2, qi 3, qf, q0] false 10
def tkS4 (lt : Int) : AObj := .cells [.string ⟨#[97]⟩, qi 1, qi 1, qi 0, qi 1, qi 0, qf, qi 0, qi 0, qf, .string ⟨#[113]⟩, qi 2, qi 1, qi 0, qi 1, qi 0, qf, qi 1, qi 0, qf, .string ⟨#[116]⟩, qi 3, qi 6, qi 0, qi 0, qi 0, qf, qi 0, qi 0, qf, .string ⟨#[110]⟩, qi 3, qi 9, qi 0, qi 0, qi 0, qf, qi 0, qi 0, qf] false 10
def tkS5 (lt : Int) : AObj := .cells [qi 2, qi 0, qi 0, qi 0, qi 0, qi 0, qf, qi 1, qi 4, qi 0, qi 0, qi 4, qI lt, qf, qi 22, qi 6, qi 2, qi 2, qi 0, qi 0, qf, qi 2, qi 0, qi 2, qi 0, qi 0, qi 0, qf, qi 18, qi 0, qi 1, qi 0, qi 0, qi 0, qf, qi 2, qi 0, qi 0, qi 0, qi 0, qi 0, qf, qi 1, qi 2, qi 0, qi 0, qi 2, qi 3, qf, qi 22, qi 9, qi 6, qi 2, qi 0, qi 0, qf, qi 23, qi 0, qi 0, qi 0, qi 0, qi 0, qf] false 7
def tkStat (lt : Int) (l : List (Option AObj)) : List (Option AObj) := some (tkS0 lt) :: some (tkS1 lt) :: some (tkS2 lt) :: some (tkS3 lt) :: some (tkS4 lt) :: some (tkS5 lt) :: l
/-- the cells: what comes in, what goes out, the timer's four, the counter's three -/
structure TkV where
  a : Int
  q : Int
  tq : Int
  et : Int
  on : Int
  at' : Int
  nq : Int
  cv : Int
  con : Int
def tkImg (x : TkV) : AObj := .cells [qi 1, qI x.a, qf, qi 1, qI x.q, qf, qi 1, qI x.tq, qf, qi 4, qI x.et, qf, qi 1, qI x.on, qf, qi 4, qI x.at', qf, qi 1, qI x.nq, qf, qi 2, qI x.cv, qf, qi 1, qI x.con, qf] false 3
/-- inputs: as they are set -/
def tkInp (a : Int) : AObj := tkImg ⟨a, 0, 0, 0, 0, 0, 0, 0, 0⟩
def tkSess (ex : Bool) : AObj := .cells [.bool false, qi 0, q0, .bool false, q0, q0, q0, qi 0, .bool false, qi 0, q0, .bool false, q0, q0, q0, qi 0, .bool false, qi 0, q0, .bool false, q0, q0, q0, qi 0, .bool false, qi 0, q0, .bool false, q0, q0, q0, qi 0] ex 8
def tkH0 (lt now : Int) (g : AObj) : List (Option AObj) := some g :: some (.cells [qs 2 4 4, qs 3 3 3, qs 6 4 4, qs 7 9 9, qi 100, qs 8 9 9, qi 0, q0, q0, qi 0, qi 0, .bool true, qi 0, qi 0, qi 0, qI now, qs 9 4 4, q0, qs 10 9 9] true 0) :: tkStat lt [some (tkInp 0), some (tkSess true), some (tkInp 0)]
/-- behind a round: x the cells, m what the machine last saw of the time -/
def tkH (lt now N : Int) (x : TkV) (g : AObj) : List (Option AObj) := some g :: some (.cells [qs 2 4 4, qs 3 3 3, qs 6 4 4, qs 7 9 9, qi 100, qs 8 9 9, qi 8, qs 9 0 0, qs 10 9 9, qi 9, qI now, .bool true, qi 0, qi 0, qI N, qI now, qs 11 4 4, q0, qs 12 9 9] true 0) :: tkStat lt [some (tkImg x), some (.cells [] true 3), some (tkImg x), some (tkSess false), some (tkInp x.a)]
def tkFr (s : Value) (lt now since edges : Int) (was : Bool) (i : Nat) : AFr := mkF 169 [(0, s), (6, .pointer (some ⟨1, 0, none⟩)), (9, qI lt), (10, qI now), (11, qI since), (12, qI edges), (13, .bool was), (14, .int .i64 (.ofNat i))]
end Go.Proofs.YthajddbhjdkmnaaGreatDoor.Ev
