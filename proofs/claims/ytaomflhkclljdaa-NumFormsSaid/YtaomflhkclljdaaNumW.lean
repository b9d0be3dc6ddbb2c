/-
  Contracts of package num.
-/
import Derived.Test.YtaomflhkclljdaaRecov
import Derived.WalkKit
import Derived.WalkSpells
import Derived.WalkLawsBesides
import Derived.Defers
import Derived.Recover
import Derived.Laws.Pointers
import Derived.RegionTactic
import Derived.Lib.Hide
import Derived.LoopN
namespace Go.Proofs.Ytaomflhkclljdaa
open Go.RowKit

set_option maxHeartbeats 400000 in
theorem caught_idle (p q : Addr) (w : World) :
    CallsD Try.prog 11 #[.pointer (some p), .pointer (some q)] .returning w fun e u' w' => u' = .returning ∧ (e = .returned (.tuple #[]) ∧ w' = w.alloc (.cells #[.int .i64 0] 41)) := by
  have hta : ∀ w : World, (Instr.typeAssert .nilIface 20 41 true).run Try.prog w = .ok (.tuple #[.agg #[.int .i64 0], .bool false]) w := fun _ => by kernel_rfl
  refine callsD_recover Try.func11 rfl rfl (fun _ => rfl) (.inr ⟨rfl, rfl, rfl⟩) ?_
  simp only [Try.ntmps11, List.size_toArray, List.length_cons, List.length_nil, Nat.reduceAdd, Nat.reduceSub, Array.replicate_succ, Array.replicate_zero, List.push_toArray, List.append_toArray, List.nil_append, List.cons_append, Act.put, List.setIfInBounds_toArray, List.set_cons_succ, List.set_cons_zero]
  go_wp2
  go_end0
  exact ⟨rfl, rfl⟩

theorem cells2 (B : Nat) (x y : Int) (u v : Value) (o : Obj) (w : World) (hlt : B + 1 < w.heap.size) (hx : w.cell? ⟨B, 0, none⟩ = some (.int .i64 x)) (hy : w.cell? ⟨B + 1, 0, none⟩ = some (.int .i64 y)) :
    (((w.setCell ⟨B, 0, none⟩ u).setCell ⟨B + 1, 0, none⟩ v).alloc o).cell? ⟨B, 0, none⟩ = some u ∧ (((w.setCell ⟨B, 0, none⟩ u).setCell ⟨B + 1, 0, none⟩ v).alloc o).cell? ⟨B + 1, 0, none⟩ = some v := by
  have hs : ∀ a v, (w.setCell a v).heap.size = w.heap.size := fun a v => by simp [World.setCell]
  constructor
  · rw [World.cell?_alloc_lt _ _ _ (by simp; omega), World.cell?_setCell_other _ _ _ _ (by simp), World.cell?_setCell_same _ _ _ hx]
  · rw [World.cell?_alloc_lt _ _ _ (by simp; omega)]
    refine World.cell?_setCell_same _ _ _ (u := .int .i64 y) ?_
    rw [World.cell?_setCell_other _ _ _ _ (by simp), hy]

set_option maxHeartbeats 400000 in
theorem caught_wrong (B n : Nat) (e x y : Int) (older : List PanicEntry) (w : World) (hn : n = B + 1) (hlt : n < w.heap.size) (hx : w.cell? ⟨B, 0, none⟩ = some (.int .i64 x)) (hy : w.cell? ⟨n, 0, none⟩ = some (.int .i64 y)) (fx : w.frozen? ⟨B, 0, none⟩ = false) (fy : w.frozen? ⟨n, 0, none⟩ = false) :
    CallsD Try.prog 11 #[.pointer (some ⟨B, 0, none⟩), .pointer (some ⟨n, 0, none⟩)] (.panicking ({ v := .iface 41 (.agg #[.int .i64 e]), recovered := false } :: older)) w fun e' u' w' =>
      u' = .panicking ({ v := .iface 41 (.agg #[.int .i64 e]), recovered := true } :: older) ∧ (e' = .returned (.tuple #[]) ∧ w'.cell? ⟨B, 0, none⟩ = some (.int .i64 0) ∧ w'.cell? ⟨n, 0, none⟩ = some (.int .i64 e) ∧ Below B w w') := by
  subst hn
  have hltB : B < w.heap.size := by omega
  have hta : ∀ (w : World), (Instr.typeAssert (.iface 41 (.agg #[.int .i64 e])) 20 41 true).run Try.prog w = .ok (.tuple #[.agg #[.int .i64 e], .bool true]) w := fun _ => by kernel_rfl
  refine callsD_recover Try.func11 rfl rfl (fun _ => rfl) (.inl ⟨older, rfl, rfl⟩) ?_
  simp only [Try.ntmps11, List.size_toArray, List.length_cons, List.length_nil, Nat.reduceAdd, Nat.reduceSub, Array.replicate_succ, Array.replicate_zero, List.push_toArray, List.append_toArray, List.nil_append, List.cons_append, Act.put, List.setIfInBounds_toArray, List.set_cons_succ, List.set_cons_zero]
  go_wp2
  go_region
  go_end0
  refine ⟨rfl, ?_, ?_, ?_⟩
  · exact (cells2 B x y (.int .i64 0) (.int .i64 e) _ w hlt hx hy).1
  · exact (cells2 B x y (.int .i64 0) (.int .i64 e) _ w hlt hx hy).2
  · exact ((((Below.refl B w).setCell (p := ⟨B, 0, none⟩) (by simp) _).setCell (p := ⟨B + 1, 0, none⟩) (by simp) _).alloc (by simp; omega) _).drew

theorem ret_int {k : IntKind} {a b : Int} (h : a = b) : Ending.returned (.int k a) = .returned (.int k b) := by rw [h]
/-! ### the plain functions -/
def truthI (b : Bool) : Int := if b then 1 else 0
def wrapK (kind v : Int) : Int := if kind = 1 then truthI (v != 0) else if kind = 2 then IntKind.i16.wrap v else if kind = 3 then wrap32 v else if kind = 4 then v else 0
def wrongE (e : Int) : Ending := .panicked [{ v := .iface 41 (.agg #[.int .i64 e]), recovered := false }]

set_option maxHeartbeats 400000 in
theorem truth_any (b : Bool) (w : World) : Calls Try.prog 10 #[.bool b] w fun e w' => e = .returned (.int .i64 (truthI b)) ∧ w = w' := by
  cases b
  · go_enter Try.func10, Try.ntmps10
    go_wp2
    go_ret
    exact ⟨rfl, rfl⟩
  · go_enter Try.func10, Try.ntmps10
    go_wp2
    go_ret
    exact ⟨rfl, rfl⟩

theorem wrap_16 (v : Int) : IntKind.i16.wrap v = (v + 32768) % 65536 - 32768 := by
  by_cases h : v % 65536 ≥ 32768
  · simp [IntKind.wrap, IntKind.bits, IntKind.signed, h]; omega
  · simp [IntKind.wrap, IntKind.bits, IntKind.signed, h]; omega
theorem w64_16 (v : Int) : wrap64 (IntKind.i16.wrap v) = IntKind.i16.wrap v := by
  rw [wrap_16]
  unfold wrap64
  omega
theorem w64_32 (v : Int) : wrap64 (wrap32 v) = wrap32 v := by
  unfold wrap64 wrap32
  omega

set_option maxHeartbeats 400000 in
theorem wrap_any (kind v : Int) (w : World) : Calls Try.prog 8 #[.int .i64 kind, .int .i64 v] w fun e w' => e = .returned (.int .i64 (wrapK kind v)) ∧ w = w' := by
  by_cases h1 : kind = 1
  · subst h1
    have e : wrapK 1 v = truthI (v != 0) := rfl
    rw [e]
    clear e
    go_enter Try.func8, Try.ntmps8
    go_wp2_with (go_at_call 10; refine (truth_any _ _).mono ?_; rintro e w' ⟨rfl, rfl⟩)
    go_ret
    exact ⟨rfl, rfl⟩
  by_cases h2 : kind = 2
  · subst h2
    have e : wrapK 2 v = IntKind.i16.wrap v := rfl
    rw [e]
    clear e
    go_enter Try.func8, Try.ntmps8
    go_wp2
    go_ret
    exact ⟨ret_int (by first | exact w64_16 v | exact w64_32 v), rfl⟩
  by_cases h3 : kind = 3
  · subst h3
    have e : wrapK 3 v = wrap32 v := rfl
    rw [e]
    clear e
    go_enter Try.func8, Try.ntmps8
    go_wp2
    go_ret
    exact ⟨ret_int (by first | exact w64_16 v | exact w64_32 v), rfl⟩
  by_cases h4 : kind = 4
  · subst h4
    have e : wrapK 4 v = v := rfl
    rw [e]
    clear e
    go_enter Try.func8, Try.ntmps8
    go_wp2
    all_goals go_ret
    all_goals exact ⟨rfl, rfl⟩
  · have e : wrapK kind v = 0 := by simp [wrapK, h1, h2, h3, h4]
    rw [e]
    clear e
    have d1 : (kind == 1) = false := by simpa using h1
    have d2 : (kind == 2) = false := by simpa using h2
    have d3 : (kind == 3) = false := by simpa using h3
    have d4 : (kind == 4) = false := by simpa using h4
    go_enter Try.func8, Try.ntmps8
    go_wp2
    all_goals go_ret
    all_goals exact ⟨rfl, rfl⟩

set_option maxHeartbeats 400000 in
theorem fail_any (e : Int) (w : World) : Calls Try.prog 13 #[.int .i64 e] w fun e' w' => e' = wrongE e ∧ w = w' := by
  go_enter Try.func13, Try.ntmps13
  go_wp2
  exact ⟨rfl, rfl, rfl⟩

def cmpIs (op : Int) : Bool := op == 9 || op == 10 || op == 11 || op == 12
def cmpSo (op a b : Int) : Bool := if op = 9 then a == b else if op = 10 then a != b else if op = 11 then decide (a < b) else if op = 12 then decide (a ≤ b) else false

set_option maxHeartbeats 1000000 in
theorem compares_any (op a b : Int) (w : World) : Calls Try.prog 12 #[.int .i64 op, .int .i64 a, .int .i64 b] w fun e w' => e = .returned (.tuple #[.bool (cmpIs op), .bool (cmpSo op a b)]) ∧ w = w' := by
  by_cases h9 : op = 9
  · subst h9
    have e : cmpIs 9 = true ∧ cmpSo 9 a b = (a == b) := ⟨rfl, rfl⟩
    rw [e.1, e.2]
    clear e
    go_enter Try.func12, Try.ntmps12
    go_wp2
    go_ret2
    exact ⟨rfl, rfl⟩
  by_cases h10 : op = 10
  · subst h10
    have e : cmpIs 10 = true ∧ cmpSo 10 a b = (a != b) := ⟨rfl, rfl⟩
    rw [e.1, e.2]
    clear e
    go_enter Try.func12, Try.ntmps12
    go_wp2
    go_ret2
    exact ⟨rfl, rfl⟩
  by_cases h11 : op = 11
  · subst h11
    have e : cmpIs 11 = true ∧ cmpSo 11 a b = decide (a < b) := ⟨rfl, rfl⟩
    rw [e.1, e.2]
    clear e
    go_enter Try.func12, Try.ntmps12
    go_wp2
    go_ret2
    exact ⟨rfl, rfl⟩
  by_cases h12 : op = 12
  · subst h12
    have e : cmpIs 12 = true ∧ cmpSo 12 a b = decide (a ≤ b) := ⟨rfl, rfl⟩
    rw [e.1, e.2]
    clear e
    go_enter Try.func12, Try.ntmps12
    go_wp2
    go_ret2
    exact ⟨rfl, rfl⟩
  · have e : cmpIs op = false ∧ cmpSo op a b = false := by simp [cmpIs, cmpSo, h9, h10, h11, h12]
    rw [e.1, e.2]
    clear e
    have d1 : (op == 9) = false := by simpa using h9
    have d2 : (op == 10) = false := by simpa using h10
    have d3 : (op == 11) = false := by simpa using h11
    have d4 : (op == 12) = false := by simpa using h12
    go_enter Try.func12, Try.ntmps12
    go_wp2
    go_ret2
    exact ⟨rfl, rfl⟩

/-- what numbers come to, ahead of their width: a number, or an error -/
def numOf (op a b : Int) : Int × Int :=
  if op = 4 then (wrap64 (a + b), 0) else if op = 5 then (wrap64 (a - b), 0) else if op = 6 then (wrap64 (a * b), 0) else if op = 16 then (wrap64 (-a), 0)
  else if op = 7 then (if b = 0 then (0, 5) else (wrap64 (a.tdiv b), 0)) else if op = 8 then (if b = 0 then (0, 5) else (a.tmod b, 0)) else (0, 4)

set_option maxHeartbeats 1000000 in
theorem quotient_div (a b : Int) (h : b ≠ 0) (w : World) : Calls Try.prog 16 #[.int .i64 7, .int .i64 a, .int .i64 b] w fun e w' => e = .returned (.int .i64 (wrap64 (a.tdiv b))) ∧ w = w' := by
  have d : (b == 0) = false := by simpa using h
  go_enter Try.func16, Try.ntmps16
  go_wp2
  go_ret
  exact ⟨rfl, rfl⟩
set_option maxHeartbeats 1000000 in
theorem quotient_mod (a b : Int) (h : b ≠ 0) (w : World) : Calls Try.prog 16 #[.int .i64 8, .int .i64 a, .int .i64 b] w fun e w' => e = .returned (.int .i64 (a.tmod b)) ∧ w = w' := by
  have d : (b == 0) = false := by simpa using h
  go_enter Try.func16, Try.ntmps16
  go_wp2
  go_ret
  exact ⟨rfl, rfl⟩
set_option maxHeartbeats 1000000 in
theorem quotient_nought (op a : Int) (w : World) : Calls Try.prog 16 #[.int .i64 op, .int .i64 a, .int .i64 0] w fun e w' => e = wrongE 5 ∧ w = w' := by
  go_enter Try.func16, Try.ntmps16
  go_wp2_with (go_at_call 13; refine (fail_any _ _).mono ?_; rintro e w' ⟨rfl, rfl⟩; unfold wrongE)
  exact ⟨rfl, rfl, rfl⟩

set_option maxHeartbeats 1000000 in
theorem of_ok (op a b : Int) (h : (numOf op a b).2 = 0) (w : World) : Calls Try.prog 15 #[.int .i64 op, .int .i64 a, .int .i64 b] w fun e w' => e = .returned (.int .i64 (numOf op a b).1) ∧ w = w' := by
  by_cases h4 : op = 4
  · subst h4
    rw [show numOf 4 a b = (wrap64 (a + b), 0) from rfl]
    clear h
    go_enter Try.func15, Try.ntmps15
    go_wp2
    go_ret
    exact ⟨rfl, rfl⟩
  by_cases h5 : op = 5
  · subst h5
    rw [show numOf 5 a b = (wrap64 (a - b), 0) from rfl]
    clear h
    go_enter Try.func15, Try.ntmps15
    go_wp2
    go_ret
    exact ⟨rfl, rfl⟩
  by_cases h6 : op = 6
  · subst h6
    rw [show numOf 6 a b = (wrap64 (a * b), 0) from rfl]
    clear h
    go_enter Try.func15, Try.ntmps15
    go_wp2
    go_ret
    exact ⟨rfl, rfl⟩
  by_cases h16 : op = 16
  · subst h16
    rw [show numOf 16 a b = (wrap64 (-a), 0) from rfl]
    clear h
    go_enter Try.func15, Try.ntmps15
    go_wp2
    go_ret
    exact ⟨rfl, rfl⟩
  by_cases h7 : op = 7
  · subst h7
    by_cases hb : b = 0
    · subst hb
      simp [numOf] at h
    · rw [show numOf 7 a b = (wrap64 (a.tdiv b), 0) by simp [numOf, hb]]
      clear h
      go_enter Try.func15, Try.ntmps15
      go_wp2_with (go_at_call 16; refine (quotient_div _ _ hb _).mono ?_; rintro e w' ⟨rfl, rfl⟩)
      go_ret
      exact ⟨rfl, rfl⟩
  by_cases h8 : op = 8
  · subst h8
    by_cases hb : b = 0
    · subst hb
      simp [numOf] at h
    · rw [show numOf 8 a b = (a.tmod b, 0) by simp [numOf, hb]]
      clear h
      go_enter Try.func15, Try.ntmps15
      go_wp2_with (go_at_call 16; refine (quotient_mod _ _ hb _).mono ?_; rintro e w' ⟨rfl, rfl⟩)
      go_ret
      exact ⟨rfl, rfl⟩
  · simp [numOf, h4, h5, h6, h16, h7, h8] at h
set_option maxHeartbeats 1000000 in
theorem of_fail (op a b : Int) (h : (numOf op a b).2 ≠ 0) (w : World) : Calls Try.prog 15 #[.int .i64 op, .int .i64 a, .int .i64 b] w fun e w' => e = wrongE (numOf op a b).2 ∧ w = w' := by
  by_cases h7 : op = 7
  · subst h7
    by_cases hb : b = 0
    · subst hb
      rw [show numOf 7 a 0 = (0, 5) from rfl]
      clear h
      go_enter Try.func15, Try.ntmps15
      go_wp2_with (go_at_call 16; refine (quotient_nought _ _ _).mono ?_; rintro e w' ⟨rfl, rfl⟩; unfold wrongE)
      exact ⟨rfl, rfl, rfl⟩
    · simp [numOf, hb] at h
  by_cases h8 : op = 8
  · subst h8
    by_cases hb : b = 0
    · subst hb
      rw [show numOf 8 a 0 = (0, 5) from rfl]
      clear h
      go_enter Try.func15, Try.ntmps15
      go_wp2_with (go_at_call 16; refine (quotient_nought _ _ _).mono ?_; rintro e w' ⟨rfl, rfl⟩; unfold wrongE)
      exact ⟨rfl, rfl, rfl⟩
    · simp [numOf, hb] at h
  by_cases h4 : op = 4
  · subst h4; simp [numOf] at h
  by_cases h5 : op = 5
  · subst h5; simp [numOf] at h
  by_cases h6 : op = 6
  · subst h6; simp [numOf] at h
  by_cases h16 : op = 16
  · subst h16; simp [numOf] at h
  · rw [show numOf op a b = (0, 4) by simp [numOf, h4, h5, h6, h16, h7, h8]]
    clear h
    have d1 : (op == 4) = false := by simpa using h4
    have d2 : (op == 5) = false := by simpa using h5
    have d3 : (op == 6) = false := by simpa using h6
    have d4 : (op == 16) = false := by simpa using h16
    have d5 : (op == 7) = false := by simpa using h7
    have d6 : (op == 8) = false := by simpa using h8
    go_enter Try.func15, Try.ntmps15
    go_wp2_with (go_at_call 13; refine (fail_any _ _).mono ?_; rintro e w' ⟨rfl, rfl⟩; unfold wrongE)
    exact ⟨rfl, rfl, rfl⟩
end Go.Proofs.Ytaomflhkclljdaa
