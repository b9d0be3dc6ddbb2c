/-
  Four bytes, whether, rows of values: data that lie in cells.
-/
import Derived.Test.YtjibiphgbhlhkaaQ26
set_option linter.unusedVariables false
set_option linter.unusedSimpArgs false
namespace Go.Proofs.Ytjibiphgbhlhkaa.Ev
open Go Go.Proofs Go.RowKit
structure U4 where
 a : Int
 b : Int
 c : Int
 d : Int
def u4E (x : U4) (j : Nat) : Td := match j with
 | 0 => .sc (.int .u8 x.a)
 | 1 => .sc (.int .u8 x.b)
 | 2 => .sc (.int .u8 x.c)
 | _ => .sc (.int .u8 x.d)
def u4D (c : Nat → Td) : U4 := match c 0, c 1, c 2, c 3 with
 | .sc (.int .u8 p), .sc (.int .u8 q), .sc (.int .u8 r), .sc (.int .u8 s) => ⟨p, q, r, s⟩
 | _, _, _, _ => ⟨0, 0, 0, 0⟩
def okB4 (x : U4) : Bool := decide (0 ≤ x.a) && decide (x.a < 256) && decide (0 ≤ x.b) && decide (x.b < 256) && decide (0 ≤ x.c) && decide (x.c < 256) && decide (0 ≤ x.d) && decide (x.d < 256)
def u4Ok (c : Nat → Td) : Bool := match c 0, c 1, c 2, c 3 with
 | .sc (.int .u8 p), .sc (.int .u8 q), .sc (.int .u8 r), .sc (.int .u8 s) => okB4 ⟨p, q, r, s⟩
 | _, _, _, _ => false
theorem u4Ok_inv {c : Nat → Td} (h : u4Ok c = true) : c 0 = .sc (.int .u8 (u4D c).a) ∧ c 1 = .sc (.int .u8 (u4D c).b) ∧ c 2 = .sc (.int .u8 (u4D c).c) ∧ c 3 = .sc (.int .u8 (u4D c).d) ∧ okB4 (u4D c) = true := by
 unfold u4Ok at h
 split at h
 ·rename_i p q r s h0 h1 h2 h3
  simp only [u4D, h0, h1, h2, h3]
  exact ⟨trivial, trivial, trivial, trivial, h⟩
 ·cases h
instance encU4 : Enc U4 where
 es := 4
 enc := u4E
 dec := u4D
 ok := u4Ok
 dflt := ⟨0, 0, 0, 0⟩
 good c := u4Ok c = true
 okgood c h := h
 law c h w F j y hj ht := by
  obtain ⟨h0, h1, h2, h3, _⟩ := u4Ok_inv h
  match j, hj with
  | 0, _ => rw [h0] at ht; exact ht
  | 1, _ => rw [h1] at ht; exact ht
  | 2, _ => rw [h2] at ht; exact ht
  | 3, _ => rw [h3] at ht; exact ht
 back a := rfl
 mrg a b w F j y hj := match j, hj with
  | 0, _ => ⟨fun h => h, fun h => h⟩
  | 1, _ => ⟨fun h => h, fun h => h⟩
  | 2, _ => ⟨fun h => h, fun h => h⟩
  | 3, _ => ⟨fun h => h, fun h => h⟩
theorem okB4_iff (x : U4) : okB4 x = true ↔ (0 ≤ x.a ∧ x.a < 256) ∧ (0 ≤ x.b ∧ x.b < 256) ∧ (0 ≤ x.c ∧ x.c < 256) ∧ (0 ≤ x.d ∧ x.d < 256) := by
 unfold okB4
 simp only [Bool.and_eq_true, decide_eq_true_eq]
 exact ⟨fun ⟨⟨⟨⟨⟨⟨⟨h1, h2⟩, h3⟩, h4⟩, h5⟩, h6⟩, h7⟩, h8⟩ => ⟨⟨h1, h2⟩, ⟨h3, h4⟩, ⟨h5, h6⟩, ⟨h7, h8⟩⟩, fun ⟨⟨h1, h2⟩, ⟨h3, h4⟩, ⟨h5, h6⟩, ⟨h7, h8⟩⟩ => ⟨⟨⟨⟨⟨⟨⟨h1, h2⟩, h3⟩, h4⟩, h5⟩, h6⟩, h7⟩, h8⟩⟩
def shU4 (_ : Nat) : Sh := .int .u8
theorem sh_u8 {t : Td} (h : ShOk (.int .u8) t) : ∃ n : Int, t = .sc (.int .u8 n) ∧ 0 ≤ n ∧ n < 256 := by
 cases t with
 | fr => exact h.elim
 | sc x =>
  cases x with
  | int k n =>
   obtain ⟨rfl, hw⟩ := h
   simp [Lit.wf, IntKind.min, IntKind.max, IntKind.signed, IntKind.bits] at hw
   exact ⟨n, rfl, by omega, by omega⟩
  | _ => exact h.elim
theorem goodU4 (c : Nat → Td) (h : ∀ j, j < 4 → ShOk (shU4 j) (c j)) : Enc.good U4 c := by
 obtain ⟨n0, h0, a1, a2⟩ := sh_u8 (h 0 (by omega))
 obtain ⟨n1, h1, b1, b2⟩ := sh_u8 (h 1 (by omega))
 obtain ⟨n2, h2, c1, c2⟩ := sh_u8 (h 2 (by omega))
 obtain ⟨n3, h3, d1, d2⟩ := sh_u8 (h 3 (by omega))
 show u4Ok c = true
 simp only [u4Ok, h0, h1, h2, h3]
 exact (okB4_iff _).2 ⟨⟨a1, a2⟩, ⟨b1, b2⟩, ⟨c1, c2⟩, ⟨d1, d2⟩⟩
theorem goodU4_all {t : Td} (h : goodT U4 t) : ∀ x ∈ listT U4 t, okB4 x = true := goodT_all (fun c hc => (u4Ok_inv hc).2.2.2.2) h
instance encB : Enc Bool where
 es := 1
 enc a _ := .sc (.bool a)
 dec c := boolD (c 0)
 ok c := boolOk (c 0)
 dflt := false
 good c := boolOk (c 0) = true
 okgood c h := h
 law c h w F j y hj ht := by
  have : j = 0 := by omega
  subst this
  rw [boolOk_inv h] at ht; exact ht
 back a := rfl
 mrg a b w F j y hj := ⟨fun h => h, fun h => h⟩
structure Vs where
 l : List Vl
 c : Nat
instance encVs : Enc Vs where
 es := 1
 enc a _ := .fr 3 a.l.length a.c (encL a.l)
 dec c := ⟨listT Vl (c 0), nilT (c 0)⟩
 ok c := okT Vl (c 0)
 dflt := ⟨[], 1⟩
 good c := goodT Vl (c 0)
 okgood c h := okT_good h
 law c h w F j y hj ht := by
  have : j = 0 := by omega
  subst this
  exact goodT_TR (α := Vl) h ht
 back a := by
  obtain ⟨l, c⟩ := a
  show (⟨decL l.length (encL l), c⟩ : Vs) = _
  rw [decL_encL]
 mrg a b w F j y hj := by
  have : j = 0 := by omega
  subst this
  exact ⟨mrgL_true' (α := Vl) (by decide), mrgL_false' (α := Vl) (by decide)⟩
end Go.Proofs.Ytjibiphgbhlhkaa.Ev
