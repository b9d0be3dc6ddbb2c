/-
  Pairs of bytes as data that lie in cells.
-/
import Derived.Test.YtpejhdbllphdaaaMlDr
import Derived.Test.YtpejhdbllphdaaaOut
set_option linter.unusedVariables false
set_option linter.unusedSimpArgs false
namespace Go.Proofs.Ytpejhdbllphdaaa.Ev
open Go Go.Proofs Go.RowKit

structure U2 where
  a : Int
  b : Int
def u2E (x : U2) (j : Nat) : Td := match j with
  | 0 => .sc (.int .u8 x.a)
  | _ => .sc (.int .u8 x.b)
def u2D (c : Nat → Td) : U2 := match c 0, c 1 with
  | .sc (.int .u8 a), .sc (.int .u8 b) => ⟨a, b⟩
  | _, _ => ⟨0, 0⟩
def u2Ok (c : Nat → Td) : Bool := match c 0, c 1 with
  | .sc (.int .u8 a), .sc (.int .u8 b) => decide (0 ≤ a) && decide (a < 256) && decide (0 ≤ b) && decide (b < 256)
  | _, _ => false
theorem u2Ok_inv {c : Nat → Td} (h : u2Ok c = true) : c 0 = .sc (.int .u8 (u2D c).a) ∧ c 1 = .sc (.int .u8 (u2D c).b) ∧ 0 ≤ (u2D c).a ∧ (u2D c).a < 256 ∧ 0 ≤ (u2D c).b ∧ (u2D c).b < 256 := by
  unfold u2Ok at h
  split at h
  · rename_i a b h0 h1
    simp only [Bool.and_eq_true, decide_eq_true_eq] at h
    simp only [u2D, h0, h1]
    exact ⟨trivial, trivial, h.1.1.1, h.1.1.2, h.1.2, h.2⟩
  · cases h
instance encU2 : Enc U2 where
  es := 2
  enc := u2E
  dec := u2D
  ok := u2Ok
  dflt := ⟨0, 0⟩
  good c := u2Ok c = true
  okgood c h := h
  law c h w F j y hj ht := by
    obtain ⟨h0, h1, _⟩ := u2Ok_inv h
    match j, hj with
    | 0, _ => rw [h0] at ht; exact ht
    | 1, _ => rw [h1] at ht; exact ht
  back a := rfl
  mrg a b w F j y hj := match j, hj with
    | 0, _ => ⟨fun h => h, fun h => h⟩
    | 1, _ => ⟨fun h => h, fun h => h⟩
def shU2 (_ : Nat) : Sh := .int .u8
theorem sh_u8 {t : Td} (h : ShOk (.int .u8) t) : ∃ n : Int, t = .sc (.int .u8 n) ∧ 0 ≤ n ∧ n < 256 := by
  cases t with
  | fr => exact h.elim
  | sc x =>
    cases x with
    | int k n =>
      obtain ⟨rfl, hw⟩ := h
      simp [Lit.wf, IntKind.min, IntKind.max, IntKind.signed, IntKind.bits] at hw
      exact ⟨n, rfl, by omega, by omega⟩
    | _ => exact h.elim
theorem goodU2 (c : Nat → Td) (h : ∀ j, j < 2 → ShOk (shU2 j) (c j)) : Enc.good U2 c := by
  obtain ⟨n, h0, a1, a2⟩ := sh_u8 (h 0 (by omega))
  obtain ⟨m, h1, b1, b2⟩ := sh_u8 (h 1 (by omega))
  show u2Ok c = true
  simp only [u2Ok, h0, h1]
  simp; omega
theorem goodU2_all {t : Td} (h : goodT U2 t) : ∀ x ∈ listT U2 t, 0 ≤ x.a ∧ x.a < 256 ∧ 0 ≤ x.b ∧ x.b < 256 := goodT_all (fun c hc => (u2Ok_inv hc).2.2) h
def toldL : Told := toldT.tree 8 (ok2 Wr Vl fun l _ _ _ => l.all (okA Wr)) (ans2 Wr Vl fun l _ m d => .ret (.cell (ownL (drL l m l.length) d)))
theorem toldL_ok : ToldS Try.prog toldL := Told.tree_ok toldT_ok drain_told
end Go.Proofs.Ytpejhdbllphdaaa.Ev
