/-
  NumParts: what has to hold holds.
-/
import Derived.Test.YtaomflhkclljdaaNumPaV2
import Derived.Test.YtaomflhkclljdaaNumPaV3
import Derived.Test.YtaomflhkclljdaaNumPaV4
import Derived.OpenShut
set_option linter.unusedVariables false
set_option linter.unusedSimpArgs false
namespace Go.Proofs.Ytaomflhkclljdaa.Ev
open Go Go.Proofs Go.RowKit

theorem br_t (A B : Prop) : br true A B = A := rfl
theorem br_f (A B : Prop) : br false A B = B := rfl
theorem need_t (A : Prop) : need true A = A := rfl
theorem w16_ex (z : Int) : ∃ m, IntKind.wrap .i16 z = z + m * 65536 ∧ -32768 ≤ IntKind.wrap .i16 z ∧ IntKind.wrap .i16 z ≤ 32767 := by
  refine ⟨-((z + 32768) / 65536), ?_⟩
  unfold IntKind.wrap
  simp [IntKind.signed, IntKind.bits]
  split <;> omega
theorem w32_ex (z : Int) : ∃ m, IntKind.wrap .i32 z = z + m * 4294967296 ∧ -2147483648 ≤ IntKind.wrap .i32 z ∧ IntKind.wrap .i32 z ≤ 2147483647 := by
  refine ⟨-((z + 2147483648) / 4294967296), ?_⟩
  unfold IntKind.wrap
  simp [IntKind.signed, IntKind.bits]
  split <;> omega
theorem w64_ex (z : Int) : ∃ m, IntKind.wrap .i64 z = z + m * 18446744073709551616 ∧ -9223372036854775808 ≤ IntKind.wrap .i64 z ∧ IntKind.wrap .i64 z ≤ 9223372036854775807 := by
  refine ⟨-((z + 9223372036854775808) / 18446744073709551616), ?_⟩
  unfold IntKind.wrap
  simp [IntKind.signed, IntKind.bits]
  split <;> omega
theorem tmod_abs (x y : Int) (h : y ≠ 0) : (x.tmod y).natAbs < y.natAbs := by
  rw [Int.natAbs_tmod]
  exact Nat.mod_lt _ (by omega)
theorem tmod_abs2 (x y : Int) : (x.tmod y).natAbs ≤ x.natAbs := by
  rw [Int.natAbs_tmod]
  exact Nat.mod_le _ _
theorem tmod_sign (x y : Int) : (0 ≤ x → 0 ≤ x.tmod y) ∧ (x ≤ 0 → x.tmod y ≤ 0) := by
  refine ⟨fun h => Int.tmod_nonneg _ h, fun h => ?_⟩
  obtain ⟨n, hn⟩ := Int.eq_ofNat_of_zero_le (show 0 ≤ -x by omega)
  have e : x = -(n : Int) := by omega
  subst e
  rw [Int.neg_tmod]
  have := Int.tmod_nonneg y (show (0 : Int) ≤ n by omega)
  omega
/-- what goes in so often, and what is left, are it again, by whatever multiples of N they are off -/
theorem again0 (x y N m1 m2 m3 : Int) : (x.tdiv y + m1 * N) * y + m2 * N + (x.tmod y + m3 * N) = x + (m1 * y + m2 + m3) * N := by
  have h := Int.mul_tdiv_add_tmod x y
  have e : (x.tdiv y + m1 * N) * y = y * x.tdiv y + m1 * y * N := by
    rw [Int.add_mul, Int.mul_comm (x.tdiv y) y, Int.mul_assoc, Int.mul_comm N y, ← Int.mul_assoc]
  rw [e, Int.add_mul, Int.add_mul]
  omega
theorem again64 (x y : Int) (hx : -9223372036854775808 ≤ x ∧ x ≤ 9223372036854775807) :
    IntKind.wrap .i64 (IntKind.wrap .i64 (IntKind.wrap .i64 (Int.tdiv x y) * y) + Int.tmod x y) = x := by
  obtain ⟨m1, e1, _⟩ := w64_ex (Int.tdiv x y)
  rw [e1]
  obtain ⟨m2, e2, _⟩ := w64_ex ((Int.tdiv x y + m1 * 18446744073709551616) * y)
  rw [e2]
  have h := again0 x y 18446744073709551616 m1 m2 0
  have h2 : (Int.tdiv x y + m1 * 18446744073709551616) * y + m2 * 18446744073709551616 + Int.tmod x y = x + (m1 * y + m2 + 0) * 18446744073709551616 := by omega
  rw [h2]
  obtain ⟨m4, e4, h4⟩ := w64_ex (x + (m1 * y + m2 + 0) * 18446744073709551616)
  generalize m1 * y + m2 + 0 = M at e4 h4 ⊢
  omega
/-- what is owed of a round -/
def Nn (β : Bs) (a b : Int) (k : Int) (K : Kt) : Kt := fun x f st =>
  (x = .normal ∧ ∃ p' : Int, (2 ≤ p' ∧ p' ≤ 5) ∧ (5 - p').toNat < (5 - k).toNat ∧ Seen β f st (FN a b p') (mkS [])) ∨ (x ≠ .normal ∧ (∀ v, x ≠ .panic v) ∧ ∃ f1 st1, Seen β f st f1 st1 ∧ K x f1 st1)
/-- what the conditions ask of what is left -/
def rest (x y r : Int) : Prop := (r = 0 ∨ (r < 0 ↔ x < 0)) ∧ r.natAbs < y.natAbs
theorem w64 {x : Int} (h1 : -9223372036854775808 ≤ x) (h2 : x < 9223372036854775808) : IntKind.wrap .i64 x = x := by
  obtain ⟨m, e, _⟩ := w64_ex x
  omega
theorem br_dec {p : Prop} [Decidable p] {A B : Prop} (h1 : p → A) (h2 : ¬ p → B) : br (decide p) A B := br_of (fun h => h1 (of_decide_eq_true h)) (fun h => h2 (of_decide_eq_false h))
theorem br_bne {x y : Int} {A B : Prop} (h1 : x ≠ y → A) (h2 : x = y → B) : br (x != y) A B := br_of (fun h => h1 (by simpa using h)) (fun h => h2 (by simpa using h))
theorem br_nd {p q : Prop} [Decidable p] [Decidable q] {A B : Prop} (h1 : ¬ (p ↔ q) → A) (h2 : (p ↔ q) → B) : br (!decide p == decide q) A B := br_of (fun h => h1 (by simpa using h)) (fun h => h2 (by simpa using h))
set_option maxHeartbeats 4000000 in
theorem np4 (a b : Int) (ha : -9223372036854775808 ≤ a ∧ a ≤ 9223372036854775807) (hb : -9223372036854775808 ≤ b ∧ b ≤ 9223372036854775807) (β : Bs) (hE : β.X.length = 0) (K : Kt) : J Try.prog β (loopOf Try.prog 4 0) (FN a b 4) (mkS []) (fun x f st => Nn β a b 4 K x f st) := by
  refine roundJ_ok (E := 0) (lvs := fun _ => []) (un := fun _ => 20) (fuel := 100) (n := 20) (ex := fun _ _ => False) follows toldB_ok hE (lv := lvN) ?_
  rw [vc_np_4]
  have hn : Nn β a b 4 K .normal (mkF 140 [(0, .int .i64 a), (1, .int .i64 b), (5, .int .i64 5)]) (mkS []) := .inl ⟨rfl, 5, by omega, by decide, Seen.refl _ _ _⟩
  by_cases h0 : b = 0
  · subst h0
    exact hn
  · have e0 : (b == (0 : Int)) = false := by simpa using h0
    have e1 : (true && !decide (b = (0 : Int))) = true := by simpa using h0
    have e2 : (IntKind.wrap IntKind.i64 (IntKind.wrap IntKind.i64 (IntKind.wrap IntKind.i64 (Int.tdiv a b) * b) + Int.tmod a b) != a) = false := by rw [again64 a b ha]; simp
    have t1 := tmod_abs a b h0
    have t2 := tmod_sign a b
    have t3 := tmod_abs2 a b
    simp only [e0, e1, e2, br_t, br_f, need_t]
    generalize Int.tmod a b = r at t1 t2 t3 ⊢
    have hwr : IntKind.wrap .i64 ((0 : Int) - r) = -r := by rw [w64] <;> omega
    have hwb : b = -9223372036854775808 ∨ IntKind.wrap .i64 ((0 : Int) - b) = -b := by
      rcases Int.lt_or_le (-9223372036854775808) b with h | h
      · right; rw [w64] <;> omega
      · left; omega
    simp only [hwr]
    generalize IntKind.wrap .i64 ((0 : Int) - b) = nb at hwb ⊢
    generalize Nn β a b 4 K .ret (mkF 140 []) (mkS []) = R
    generalize Nn β a b 4 K .normal (mkF 140 [(0, .int .i64 a), (1, .int .i64 b), (5, .int .i64 5)]) (mkS []) = N at hn ⊢
    repeat' first
      | exact hn
      | refine br_bne (fun _ => ?_) (fun _ => ?_)
      | refine br_nd (fun _ => ?_) (fun _ => ?_)
      | refine br_dec (fun _ => ?_) (fun _ => ?_)
    all_goals (exfalso; omega)
theorem again16 (x y : Int) (hx : -32768 ≤ x ∧ x ≤ 32767) :
    IntKind.wrap .i64 (IntKind.wrap .i16 (IntKind.wrap .i64 (IntKind.wrap .i64 (IntKind.wrap .i64 (IntKind.wrap .i16 (IntKind.wrap .i64 (Int.tdiv x y))) * y) + Int.tmod x y))) = x := by
  obtain ⟨m1, e1, _⟩ := w64_ex (Int.tdiv x y)
  obtain ⟨m2, e2, _⟩ := w16_ex (IntKind.wrap .i64 (Int.tdiv x y))
  obtain ⟨m3, e3, _⟩ := w64_ex (IntKind.wrap .i16 (IntKind.wrap .i64 (Int.tdiv x y)))
  have d : IntKind.wrap .i64 (IntKind.wrap .i16 (IntKind.wrap .i64 (Int.tdiv x y))) = Int.tdiv x y + (m1 * 281474976710656 + m2 + m3 * 281474976710656) * 65536 := by omega
  rw [d]
  generalize m1 * 281474976710656 + m2 + m3 * 281474976710656 = M
  obtain ⟨m4, e4, _⟩ := w64_ex ((Int.tdiv x y + M * 65536) * y)
  obtain ⟨m5, e5, _⟩ := w64_ex (IntKind.wrap .i64 ((Int.tdiv x y + M * 65536) * y) + Int.tmod x y)
  obtain ⟨m6, e6, h6⟩ := w16_ex (IntKind.wrap .i64 (IntKind.wrap .i64 ((Int.tdiv x y + M * 65536) * y) + Int.tmod x y))
  have h := again0 x y 65536 M (m4 * 281474976710656) 0
  have t : IntKind.wrap .i16 (IntKind.wrap .i64 (IntKind.wrap .i64 ((Int.tdiv x y + M * 65536) * y) + Int.tmod x y)) = x := by
    generalize M * y + m4 * 281474976710656 + 0 = q at h
    omega
  rw [t]
  exact w64 (by omega) (by omega)
set_option maxHeartbeats 4000000 in
theorem np2 (a b : Int) (β : Bs) (hE : β.X.length = 0) (K : Kt) : J Try.prog β (loopOf Try.prog 4 0) (FN a b 2) (mkS []) (fun x f st => Nn β a b 2 K x f st) := by
  refine roundJ_ok (E := 0) (lvs := fun _ => []) (un := fun _ => 20) (fuel := 100) (n := 20) (ex := fun _ _ => False) follows toldB_ok hE (lv := lvN) ?_
  rw [vc_np_2]
  have hn : Nn β a b 2 K .normal (mkF 140 [(0, .int .i64 a), (1, .int .i64 b), (5, .int .i64 3)]) (mkS []) := .inl ⟨rfl, 3, by omega, by decide, Seen.refl _ _ _⟩
  obtain ⟨_, _, ha⟩ := w16_ex a
  obtain ⟨_, _, hb⟩ := w16_ex b
  have wa : IntKind.wrap .i64 (IntKind.wrap .i16 a) = IntKind.wrap .i16 a := w64 (by omega) (by omega)
  have wb : IntKind.wrap .i64 (IntKind.wrap .i16 b) = IntKind.wrap .i16 b := w64 (by omega) (by omega)
  simp only [wa, wb]
  generalize Nn β a b 2 K .ret (mkF 140 []) (mkS []) = R
  generalize Nn β a b 2 K .normal (mkF 140 [(0, .int .i64 a), (1, .int .i64 b), (5, .int .i64 3)]) (mkS []) = N at hn ⊢
  generalize IntKind.wrap .i16 a = x at ha ⊢
  generalize IntKind.wrap .i16 b = y at hb ⊢
  by_cases h0 : y = 0
  · subst h0
    exact hn
  · have e0 : (y == (0 : Int)) = false := by simpa using h0
    have e1 : (true && !decide (y = (0 : Int))) = true := by simpa using h0
    have t1 := tmod_abs x y h0
    have t2 := tmod_sign x y
    have t3 := tmod_abs2 x y
    have e3 : IntKind.wrap .i64 (IntKind.wrap .i16 (Int.tmod x y)) = Int.tmod x y := by
      obtain ⟨m, e, h⟩ := w16_ex (Int.tmod x y)
      have : IntKind.wrap .i16 (Int.tmod x y) = Int.tmod x y := by omega
      rw [this]
      exact w64 (by omega) (by omega)
    have e2 := again16 x y ha
    have e4 : (x != x) = false := by simp
    simp only [e0, e1, e3, e2, e4, br_t, br_f, need_t]
    generalize Int.tmod x y = r at t1 t2 t3 ⊢
    have hwr : IntKind.wrap .i64 ((0 : Int) - r) = -r := by rw [w64] <;> omega
    have hwb : IntKind.wrap .i64 ((0 : Int) - y) = -y := by rw [w64] <;> omega
    simp only [hwr, hwb]
    repeat' first
      | exact hn
      | refine br_bne (fun _ => ?_) (fun _ => ?_)
      | refine br_nd (fun _ => ?_) (fun _ => ?_)
      | refine br_dec (fun _ => ?_) (fun _ => ?_)
    all_goals (exfalso; omega)
theorem again32 (x y : Int) (hx : -2147483648 ≤ x ∧ x ≤ 2147483647) :
    IntKind.wrap .i64 (IntKind.wrap .i32 (IntKind.wrap .i64 (IntKind.wrap .i64 (IntKind.wrap .i64 (IntKind.wrap .i32 (IntKind.wrap .i64 (Int.tdiv x y))) * y) + Int.tmod x y))) = x := by
  obtain ⟨m1, e1, _⟩ := w64_ex (Int.tdiv x y)
  obtain ⟨m2, e2, _⟩ := w32_ex (IntKind.wrap .i64 (Int.tdiv x y))
  obtain ⟨m3, e3, _⟩ := w64_ex (IntKind.wrap .i32 (IntKind.wrap .i64 (Int.tdiv x y)))
  have d : IntKind.wrap .i64 (IntKind.wrap .i32 (IntKind.wrap .i64 (Int.tdiv x y))) = Int.tdiv x y + (m1 * 4294967296 + m2 + m3 * 4294967296) * 4294967296 := by omega
  rw [d]
  generalize m1 * 4294967296 + m2 + m3 * 4294967296 = M
  obtain ⟨m4, e4, _⟩ := w64_ex ((Int.tdiv x y + M * 4294967296) * y)
  obtain ⟨m5, e5, _⟩ := w64_ex (IntKind.wrap .i64 ((Int.tdiv x y + M * 4294967296) * y) + Int.tmod x y)
  obtain ⟨m6, e6, h6⟩ := w32_ex (IntKind.wrap .i64 (IntKind.wrap .i64 ((Int.tdiv x y + M * 4294967296) * y) + Int.tmod x y))
  have h := again0 x y 4294967296 M (m4 * 4294967296) 0
  have t : IntKind.wrap .i32 (IntKind.wrap .i64 (IntKind.wrap .i64 ((Int.tdiv x y + M * 4294967296) * y) + Int.tmod x y)) = x := by
    generalize M * y + m4 * 4294967296 + 0 = q at h
    omega
  rw [t]
  exact w64 (by omega) (by omega)
set_option maxHeartbeats 4000000 in
theorem np3 (a b : Int) (β : Bs) (hE : β.X.length = 0) (K : Kt) : J Try.prog β (loopOf Try.prog 4 0) (FN a b 3) (mkS []) (fun x f st => Nn β a b 3 K x f st) := by
  refine roundJ_ok (E := 0) (lvs := fun _ => []) (un := fun _ => 20) (fuel := 100) (n := 20) (ex := fun _ _ => False) follows toldB_ok hE (lv := lvN) ?_
  rw [vc_np_3]
  have hn : Nn β a b 3 K .normal (mkF 140 [(0, .int .i64 a), (1, .int .i64 b), (5, .int .i64 4)]) (mkS []) := .inl ⟨rfl, 4, by omega, by decide, Seen.refl _ _ _⟩
  obtain ⟨_, _, ha⟩ := w32_ex a
  obtain ⟨_, _, hb⟩ := w32_ex b
  have wa : IntKind.wrap .i64 (IntKind.wrap .i32 a) = IntKind.wrap .i32 a := w64 (by omega) (by omega)
  have wb : IntKind.wrap .i64 (IntKind.wrap .i32 b) = IntKind.wrap .i32 b := w64 (by omega) (by omega)
  simp only [wa, wb]
  generalize Nn β a b 3 K .ret (mkF 140 []) (mkS []) = R
  generalize Nn β a b 3 K .normal (mkF 140 [(0, .int .i64 a), (1, .int .i64 b), (5, .int .i64 4)]) (mkS []) = N at hn ⊢
  generalize IntKind.wrap .i32 a = x at ha ⊢
  generalize IntKind.wrap .i32 b = y at hb ⊢
  by_cases h0 : y = 0
  · subst h0
    exact hn
  · have e0 : (y == (0 : Int)) = false := by simpa using h0
    have e1 : (true && !decide (y = (0 : Int))) = true := by simpa using h0
    have t1 := tmod_abs x y h0
    have t2 := tmod_sign x y
    have t3 := tmod_abs2 x y
    have e3 : IntKind.wrap .i64 (IntKind.wrap .i32 (Int.tmod x y)) = Int.tmod x y := by
      obtain ⟨m, e, h⟩ := w32_ex (Int.tmod x y)
      have : IntKind.wrap .i32 (Int.tmod x y) = Int.tmod x y := by omega
      rw [this]
      exact w64 (by omega) (by omega)
    have e2 := again32 x y ha
    have e4 : (x != x) = false := by simp
    simp only [e0, e1, e3, e2, e4, br_t, br_f, need_t]
    generalize Int.tmod x y = r at t1 t2 t3 ⊢
    have hwr : IntKind.wrap .i64 ((0 : Int) - r) = -r := by rw [w64] <;> omega
    have hwb : IntKind.wrap .i64 ((0 : Int) - y) = -y := by rw [w64] <;> omega
    simp only [hwr, hwb]
    repeat' first
      | exact hn
      | refine br_bne (fun _ => ?_) (fun _ => ?_)
      | refine br_nd (fun _ => ?_) (fun _ => ?_)
      | refine br_dec (fun _ => ?_) (fun _ => ?_)
    all_goals (exfalso; omega)
theorem np5 (a b : Int) (β : Bs) (hE : β.X.length = 0) (K : Kt) (hK : K (.exit 0) (mkF 140 []) (mkS [])) : J Try.prog β (loopOf Try.prog 4 0) (FN a b 5) (mkS []) (fun x f st => Nn β a b 5 K x f st) := by
  refine roundJ_ok (E := 0) (lvs := fun _ => []) (un := fun _ => 20) (fuel := 100) (n := 20) (ex := fun _ _ => False) follows toldB_ok hE (lv := lvN) ?_
  rw [vc_np_5]
  exact .inr ⟨by simp, by simp, _, _, Seen.refl _ _ _, hK⟩
/-- one round, whichever it is -/
theorem np_J (a b : Int) (ha : -9223372036854775808 ≤ a ∧ a ≤ 9223372036854775807) (hb : -9223372036854775808 ≤ b ∧ b ≤ 9223372036854775807) (β : Bs) (hE : β.X.length = 0) (K : Kt) (hK : exN 0 K) (k : Int) (hk : 2 ≤ k ∧ k ≤ 5) :
    J Try.prog β (loopOf Try.prog 4 0) (FN a b k) (mkS []) (fun x f st => Nn β a b k K x f st) := by
  rcases (by omega : k = 2 ∨ k = 3 ∨ k = 4 ∨ k = 5) with h | h | h | h
  · subst h; exact np2 a b β hE K
  · subst h; exact np3 a b β hE K
  · subst h; exact np4 a b ha hb β hE K
  · subst h; exact np5 a b β hE K hK
theorem np_loop (a b : Int) (ha : -9223372036854775808 ≤ a ∧ a ≤ 9223372036854775807) (hb : -9223372036854775808 ≤ b ∧ b ≤ 9223372036854775807) (β : Bs) (hE : β.X.length = 0) :
    LoopJ Try.prog β exN 0 (loopOf Try.prog 4 0) (FN a b 2) (mkS []) :=
  loop_rule (fun k : Int => 2 ≤ k ∧ k ≤ 5) (FN a b) (fun _ => mkS []) (fun k => (5 - k).toNat) (fun k hk K hK => (np_J a b ha hb β hE K hK k hk).mono fun x f st h => h) 2 (by omega)
theorem parts_law (a b : Int) (ha : -9223372036854775808 ≤ a ∧ a ≤ 9223372036854775807) (hb : -9223372036854775808 ≤ b ∧ b ≤ 9223372036854775807) (w : World) : Calls Try.prog 4 #[.int .i64 a, .int .i64 b] w fun e w' => e = .returned (.bool true) ∧ Below w.heap.size w w' := by
  refine law_scal (args := [.int .i64 a, .int .i64 b]) (fuel := 100) (n := 20) (un := fun _ => 0) (lvs := fun _ => [0, 1, 5]) (ex := exN) follows toldB_ok rfl w fun β hβ => ?_
  rw [vc_np]
  exact ⟨np_loop a b ha hb β (by rw [hβ]; rfl), trivial⟩
end Go.Proofs.Ytaomflhkclljdaa.Ev
