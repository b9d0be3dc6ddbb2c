/-
  strings.Contains, told to the evaluator: the shelf's contract (what is laid was printed by the shelf's tool);
  what is closed answers true, with functions of which it is told.
-/
import Derived.Test.YtpogcoolgnjejaaGreatDoorGf
import Derived.Shelf.Strings.Search3
set_option linter.unusedVariables false
set_option linter.unusedSimpArgs false
set_option maxRecDepth 1000000
namespace Go.Proofs
def Tryz.lays144_ren : Go.Shelf.Ren := ⟨fun | 144 => 166 | 143 => 212 | 219 => 241 | 217 => 213 | 225 => 272 | 224 => 273 | 267 => 274 | 266 => 242 | 314 => 304 | n => n, fun | 9 => 9 | 4 => 4 | 3 => 3 | 5 => 5 | 46 => 251 | 146 => 277 | 51 => 209 | n => n, fun | 1 => 1 | n => n⟩
theorem Tryz.lays144 : Go.Proofs.Lays.n144 Tryz.prog Tryz.lays144_ren := {
  mixed := by kernel_rfl
  f143 := Tryz.func212.trans (congrArg some (by kernel_rfl))
  f144 := Tryz.func166.trans (congrArg some (by kernel_rfl))
  f217 := Tryz.func213.trans (congrArg some (by kernel_rfl))
  f219 := Tryz.func241.trans (congrArg some (by kernel_rfl))
  f224 := Tryz.func273.trans (congrArg some (by kernel_rfl))
  f225 := Tryz.func272.trans (congrArg some (by kernel_rfl))
  f266 := Tryz.func242.trans (congrArg some (by kernel_rfl))
  f267 := Tryz.func274.trans (congrArg some (by kernel_rfl))
  f314 := Tryz.func304.trans (congrArg some (by kernel_rfl))
  t3 := Tryz.underlying3
  a3 := Tryz.isAgg3
  z3 := Tryz.sizeOf3
  v3 := Tryz.zeroValue3
  t4 := Tryz.underlying4
  a4 := Tryz.isAgg4
  z4 := Tryz.sizeOf4
  v4 := Tryz.zeroValue4
  t5 := Tryz.underlying5
  a5 := Tryz.isAgg5
  z5 := Tryz.sizeOf5
  v5 := Tryz.zeroValue5
  t9 := Tryz.underlying9
  a9 := Tryz.isAgg9
  z9 := Tryz.sizeOf9
  v9 := Tryz.zeroValue9
  t46 := Tryz.underlying251
  a46 := Tryz.isAgg251
  z46 := Tryz.sizeOf251
  v46 := Tryz.zeroValue251
  t51 := Tryz.underlying209
  a51 := Tryz.isAgg209
  z51 := Tryz.sizeOf209
  v51 := Tryz.zeroValue209
  t146 := Tryz.underlying277
  a146 := Tryz.isAgg277
  z146 := Tryz.sizeOf277
  v146 := Tryz.zeroValue277
  g1 := by kernel_rfl }
namespace YtpogcoolgnjejaaGreatDoor.Ev
open Go
theorem follows : Tryz.prog.follows .mixedOrders = true := by kernel_rfl
def hasSpec : List Value → Option Value
  | [.string s, .string t] => cond (Nat.blt s.size 4294967281) (some (.bool (Lib.contains s.data.toList t.data.toList))) none
  | _ => none
def toldH : Told := noTold.also 166 hasSpec
theorem toldH_ok : ToldS Tryz.prog toldH := by
  refine Told.also_ok (noTold_ok _) ?_
  intro args v hv
  unfold hasSpec at hv
  split at hv
  · rename_i s t
    cases hb : Nat.blt s.size 4294967281 with
    | false => rw [hb] at hv; cases hv
    | true =>
      rw [hb] at hv
      cases hv
      refine ⟨rfl, rfl, fun w args' ha => ?_⟩
      have hs : s.size < 4294967281 := by simpa using hb
      obtain ⟨a, l, ha1, h1, h2⟩ := ha.vr.uncons
      obtain ⟨b, m, rfl, h3, h4⟩ := h2.uncons
      cases h1; cases h3
      have hm : m = [] := h4.nil_inv
      subst hm
      have : args' = #[.string s, .string t] := Array.toList_inj.1 ha1
      subst this
      obtain ⟨_, k, hk⟩ := ha.gl 1 (by simp [glB])
      refine (Any.strings_Contains Tryz.lays144 s t k w hs hk).mono fun e w' he => ?_
      obtain ⟨rfl, rfl⟩ := he
      exact ⟨⟨fun _ => none, _, rfl, .bool _⟩, RowKit.Below.refl _ _⟩
  · cases hv
/-- what is closed -/
def isTrueC (P : Program) (C : Told) (g : FuncId) (args : List Value) : Bool := match evFunC P C 100000 100 g args st0 with
  | .ok (.returned (.bool true), _) => true
  | _ => false
def answerC (P : Program) (C : Told) (g : FuncId) (args : List Value) : String × String := match evFunC P C 100000 100 g args st0 with
  | .ok (.returned (.bool true), _) => ("true", "")
  | .ok (.returned (.bool false), _) => ("false", "")
  | .ok (.returned _, _) => ("other", "")
  | .ok (.panicked _, _) => ("panics", "")
  | .er s p => (s, p)
theorem closedC_true {P : Program} {C : Told} {g : FuncId} {args : List Value} (hm : P.follows .mixedOrders = true) (hC : ToldS P C) (ha : args.all refl1 = true) (h : isTrueC P C g args = true) (w : World) (hgl : GlA w := by first | assumption | exact fun b hb => by cases hb) : Calls P g args.toArray w fun e w' => e = .returned (.bool true) ∧ RowKit.Below w.heap.size w w' := by
  unfold isTrueC at h
  split at h
  · rename_i st' he
    have hwf : Wf st0 := fun x o e => by cases e
    obtain ⟨_, h2⟩ := evFunC_sound hm hC 100000 100 g args st0 _ st' hwf he
    have hv : VRL (fun _ => none) args args := ⟨rfl, fun i x y hx hy => by
      rw [hx] at hy; cases hy
      rw [List.all_eq_true] at ha
      exact refl1_VR (ha x (List.mem_of_getElem? hx))⟩
    refine (h2 (fun _ => none) w args.toArray (by simpa using hv) (WR.empty hgl) (fun _ _ _ => rfl)).mono fun e w' he => ?_
    obtain ⟨ρ', ⟨v', rfl, hv⟩, hmv⟩ := he
    cases hv
    exact ⟨rfl, hmv.os, hmv.tape, hmv.output, hmv.size, fun k hk => hmv.frm k hk fun ⟨a, o, s, e1, _⟩ => by cases e1⟩
  · cases h
end YtpogcoolgnjejaaGreatDoor.Ev
end Go.Proofs
