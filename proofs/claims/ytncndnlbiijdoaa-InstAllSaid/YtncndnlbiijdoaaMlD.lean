/-
  Values, writes, as data that lie in cells.
-/
import Derived.Test.YtncndnlbiijdoaaMlA
set_option linter.unusedVariables false
set_option linter.unusedSimpArgs false
namespace Go.Proofs.Ytncndnlbiijdoaa.Ev
open Go Go.RowKit

instance encI : Enc Int where
  es := 1
  enc a _ := .sc (.int .i64 a)
  dec c := match c 0 with | .sc (.int .i64 a) => a | _ => 0
  ok c := match c 0 with | .sc (.int .i64 _) => true | _ => false
  dflt := 0
  good c := (match c 0 with | .sc (.int .i64 _) => true | _ => false) = true
  okgood c h := h
  law c h w F j y hj ht := by
    have : j = 0 := by omega
    subst this
    revert h ht
    cases c 0 with
    | fr => intro h; cases h
    | sc x =>
      cases x with
      | int k a => cases k <;> first | (intro h; cases h; done) | exact fun _ ht => ht
      | _ => intro h; cases h
  back a := rfl
  mrg a b w F j y hj := ⟨fun h => h, fun h => h⟩
structure Vl where
  k : Int
  i : Int
  f : Nat
def vlE (v : Vl) (j : Nat) : Td := match j with
  | 0 => .sc (.int .i64 v.k)
  | 1 => .sc (.int .i64 v.i)
  | _ => .sc (.float .f64 v.f)
def vlD (c : Nat → Td) : Vl := match c 0, c 1, c 2 with
  | .sc (.int .i64 k), .sc (.int .i64 i), .sc (.float .f64 f) => ⟨k, i, f⟩
  | _, _, _ => ⟨0, 0, 0⟩
def vlOk (c : Nat → Td) : Bool := match c 0, c 1, c 2 with
  | .sc (.int .i64 k), .sc (.int .i64 i), .sc (.float .f64 f) => true
  | _, _, _ => false
theorem vlOk_inv {c : Nat → Td} (h : vlOk c = true) : c 0 = .sc (.int .i64 (vlD c).k) ∧ c 1 = .sc (.int .i64 (vlD c).i) ∧ c 2 = .sc (.float .f64 (vlD c).f) := by
  unfold vlOk at h
  split at h
  · rename_i k i f h0 h1 h2
    simp only [vlD, h0, h1, h2, and_self]
  · cases h
instance encV : Enc Vl where
  es := 3
  enc := vlE
  dec := vlD
  ok := vlOk
  dflt := ⟨0, 0, 0⟩
  good c := vlOk c = true
  okgood c h := h
  law c h w F j y hj ht := by
    obtain ⟨h0, h1, h2⟩ := vlOk_inv h
    match j, hj with
    | 0, _ => rw [h0] at ht; exact ht
    | 1, _ => rw [h1] at ht; exact ht
    | 2, _ => rw [h2] at ht; exact ht
  back a := rfl
  mrg a b w F j y hj := match j, hj with
    | 0, _ => ⟨fun h => h, fun h => h⟩
    | 1, _ => ⟨fun h => h, fun h => h⟩
    | 2, _ => ⟨fun h => h, fun h => h⟩
/-- a write: whose, which, of which cells, which values -/
structure Wr where
  s : Int
  d : Int
  a : List Int
  ca : Nat
  v : List Vl
  cv : Nat
def wrE (w : Wr) (j : Nat) : Td := match j with
  | 0 => .sc (.int .i64 w.s)
  | 1 => .sc (.int .i64 w.d)
  | 2 => .fr 1 w.a.length w.ca (encL w.a)
  | _ => .fr 3 w.v.length w.cv (encL w.v)
def intD (t : Td) : Int := match t with | .sc (.int .i64 k) => k | _ => 0
def intOk (t : Td) : Bool := match t with | .sc (.int .i64 _) => true | _ => false
theorem intOk_inv {t : Td} (h : intOk t = true) : t = .sc (.int .i64 (intD t)) := by
  unfold intOk at h
  split at h
  · rfl
  · cases h
instance encW : Enc Wr where
  es := 4
  enc := wrE
  dec c := ⟨intD (c 0), intD (c 1), listT Int (c 2), nilT (c 2), listT Vl (c 3), nilT (c 3)⟩
  ok c := intOk (c 0) && intOk (c 1) && okT Int (c 2) && okT Vl (c 3)
  dflt := ⟨0, 0, [], 1, [], 1⟩
  good c := intOk (c 0) = true ∧ intOk (c 1) = true ∧ goodT Int (c 2) ∧ goodT Vl (c 3)
  okgood c h := by
    simp only [Bool.and_eq_true] at h
    exact ⟨h.1.1.1, h.1.1.2, okT_good h.1.2, okT_good h.2⟩
  law c h w F j y hj ht := by
    obtain ⟨h0, h1, h2, h3⟩ := h
    match j, hj with
    | 0, _ => rw [intOk_inv h0] at ht; exact ht
    | 1, _ => rw [intOk_inv h1] at ht; exact ht
    | 2, _ => exact goodT_TR (α := Int) h2 ht
    | 3, _ => exact goodT_TR (α := Vl) h3 ht
  back a := by
    obtain ⟨s, d, a, ca, v, cv⟩ := a
    show (⟨s, d, decL a.length (encL a), ca, decL v.length (encL v), cv⟩ : Wr) = _
    rw [decL_encL, decL_encL]
  mrg a b w F j y hj := match j, hj with
    | 0, _ => ⟨fun h => h, fun h => h⟩
    | 1, _ => ⟨fun h => h, fun h => h⟩
    | 2, _ => ⟨mrgL_true' (α := Int) (by decide), mrgL_false' (α := Int) (by decide)⟩
    | 3, _ => ⟨mrgL_true' (α := Vl) (by decide), mrgL_false' (α := Vl) (by decide)⟩
/-- may a write be told of: it is not too long -/
def wrFit (w : Wr) : Bool := Nat.ble w.ca 1 && Nat.ble w.a.length 1000000 && Nat.ble w.cv 1 && Nat.ble w.v.length 1000000
theorem okA_int (a : Int) : okA Int a = true := rfl
theorem okA_vl (a : Vl) : okA Vl a = true := rfl
theorem allI (l : List Int) : l.all (okA Int) = true := by rw [List.all_eq_true]; exact fun _ _ => rfl
theorem allV (l : List Vl) : l.all (okA Vl) = true := by rw [List.all_eq_true]; exact fun _ _ => rfl
theorem okA_wr {w : Wr} (h1 : w.ca ≤ 1) (h2 : w.a.length ≤ 1000000) (h3 : w.cv ≤ 1) (h4 : w.v.length ≤ 1000000) : okA Wr w = true := by
  show (intOk (.sc (.int .i64 w.s)) && intOk (.sc (.int .i64 w.d)) && okT Int (tdL w.a w.ca) && okT Vl (tdL w.v w.cv)) = true
  rw [okT_tdL (allI _) h2 h1, okT_tdL (allV _) h4 h3]; rfl
theorem okA_wr_inv {w : Wr} (h : okA Wr w = true) : w.ca ≤ 1 ∧ w.a.length ≤ 1000000 ∧ w.cv ≤ 1 ∧ w.v.length ≤ 1000000 := by
  have h : (intOk (.sc (.int .i64 w.s)) && intOk (.sc (.int .i64 w.d)) && okT Int (tdL w.a w.ca) && okT Vl (tdL w.v w.cv)) = true := h
  simp only [Bool.and_eq_true] at h
  have h1 := okT_len h.1.2
  have h2 := okT_len h.2
  rw [listT_tdL, nilT_tdL] at h1 h2
  exact ⟨h1.2, h1.1, h2.2, h2.1⟩
/-! shapes -/
def shI (_ : Nat) : Sh := .int .i64
def shV (j : Nat) : Sh := match j with
  | 0 => .int .i64
  | 1 => .int .i64
  | _ => .flt .f64
def shWr (j : Nat) : Sh := match j with
  | 0 => .int .i64
  | 1 => .int .i64
  | 2 => .sl 1 shI
  | _ => .sl 3 shV
theorem sh_int {t : Td} (h : ShOk (.int .i64) t) : ∃ n, t = .sc (.int .i64 n) := by
  cases t with
  | fr => exact h.elim
  | sc x =>
    cases x with
    | int k n => obtain ⟨rfl, _⟩ := h; exact ⟨n, rfl⟩
    | _ => exact h.elim
theorem sh_flt {t : Td} (h : ShOk (.flt .f64) t) : ∃ n, t = .sc (.float .f64 n) := by
  cases t with
  | fr => exact h.elim
  | sc x =>
    cases x with
    | float k n => obtain ⟨rfl, _⟩ := h; exact ⟨n, rfl⟩
    | _ => exact h.elim
theorem goodI (c : Nat → Td) (h : ∀ j, j < 1 → ShOk (shI j) (c j)) : Enc.good Int c := by
  obtain ⟨n, hn⟩ := sh_int (h 0 (by omega))
  show (match c 0 with | .sc (.int .i64 _) => true | _ => false) = true
  rw [hn]
theorem goodV (c : Nat → Td) (h : ∀ j, j < 3 → ShOk (shV j) (c j)) : Enc.good Vl c := by
  obtain ⟨n, hn⟩ := sh_int (h 0 (by omega))
  obtain ⟨m, hm⟩ := sh_int (h 1 (by omega))
  obtain ⟨f, hf⟩ := sh_flt (h 2 (by omega))
  show vlOk c = true
  simp only [vlOk, hn, hm, hf]
theorem goodW (c : Nat → Td) (h : ∀ j, j < 4 → ShOk (shWr j) (c j)) : Enc.good Wr c := by
  obtain ⟨n, hn⟩ := sh_int (h 0 (by omega))
  obtain ⟨m, hm⟩ := sh_int (h 1 (by omega))
  exact ⟨by rw [hn]; rfl, by rw [hm]; rfl, goodT_sh (α := Int) goodI (h 2 (by omega)), goodT_sh (α := Vl) goodV (h 3 (by omega))⟩
theorem goodW_nil {t : Td} (h : goodT Wr t) : ∀ w ∈ (listT Wr t), w.ca ≤ 1 ∧ w.cv ≤ 1 := goodT_all (fun c hc => ⟨goodT_nil hc.2.2.1, goodT_nil hc.2.2.2⟩) h
end Go.Proofs.Ytncndnlbiijdoaa.Ev
