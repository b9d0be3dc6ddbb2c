/-
  Bytes as data that lie in cells; the sums of such rows told to the evaluator.
-/
import Derived.Test.YtiodkfbmcnfooaaOut
import Derived.Test.YtiodkfbmcnfooaaEnM
import Derived.Test.YtiodkfbmcnfooaaCrcMath
set_option linter.unusedVariables false
set_option linter.unusedSimpArgs false
namespace Go.Proofs.Ytiodkfbmcnfooaa.Ev
open Go Go.Proofs Go.RowKit

structure U8 where
  v : Int
def u8E (a : U8) (_ : Nat) : Td := .sc (.int .u8 a.v)
def u8D (c : Nat → Td) : U8 := match c 0 with
  | .sc (.int .u8 a) => ⟨a⟩
  | _ => ⟨0⟩
def u8Ok (c : Nat → Td) : Bool := match c 0 with
  | .sc (.int .u8 a) => decide (0 ≤ a) && decide (a < 256)
  | _ => false
theorem u8Ok_inv {c : Nat → Td} (h : u8Ok c = true) : c 0 = .sc (.int .u8 (u8D c).v) ∧ 0 ≤ (u8D c).v ∧ (u8D c).v < 256 := by
  unfold u8Ok at h
  split at h
  · rename_i a h0
    simp only [Bool.and_eq_true, decide_eq_true_eq] at h
    simp only [u8D, h0]
    exact ⟨trivial, h.1, h.2⟩
  · cases h
instance encU : Enc U8 where
  es := 1
  enc := u8E
  dec := u8D
  ok := u8Ok
  dflt := ⟨0⟩
  good c := u8Ok c = true
  okgood c h := h
  law c h w F j y hj ht := by
    have : j = 0 := by omega
    subst this
    rw [(u8Ok_inv h).1] at ht
    exact ht
  back a := rfl
  mrg a b w F j y hj := ⟨fun h => h, fun h => h⟩
instance : EncM U8 where
  cong c c' h := by
    have h0 : c 0 = c' 0 := h 0 (by show 0 < 1; omega)
    exact ⟨by show u8D c = u8D c'; unfold u8D; rw [h0], by show u8Ok c = u8Ok c'; unfold u8Ok; rw [h0]⟩
  mt a b := ⟨rfl, rfl⟩
  mf a b := ⟨rfl, rfl⟩
theorem esU : Enc.es U8 = 1 := rfl
def okU (b : U8) : Bool := decide (0 ≤ b.v) && decide (b.v < 256)
theorem okA_u8 (a : U8) : okA U8 a = okU a := rfl
theorem okU_iff (a : U8) : okA U8 a = true ↔ 0 ≤ a.v ∧ a.v < 256 := by
  rw [okA_u8]; simp [okU]
def shU (_ : Nat) : Sh := .int .u8
theorem goodU (c : Nat → Td) (h : ∀ j, j < 1 → ShOk (shU j) (c j)) : Enc.good U8 c := by
  have h0 := h 0 (by omega)
  show u8Ok c = true
  unfold u8Ok
  revert h0
  cases c 0 with
  | fr => intro h; exact h.elim
  | sc x =>
    cases x with
    | int k n =>
      intro h
      obtain ⟨rfl, hw⟩ := h
      simp [Lit.wf, IntKind.min, IntKind.max, IntKind.signed, IntKind.bits] at hw
      show (decide (0 ≤ n) && decide (n < 256)) = true
      simp; omega
    | _ => intro h; exact h.elim
theorem goodU_all {t : Td} (h : goodT U8 t) : (listT U8 t).all (okA U8) = true := by
  rw [List.all_eq_true]
  refine goodT_all (p := fun b => okA U8 b = true) (fun c hc => ?_) h
  have := u8Ok_inv hc
  exact (okU_iff _).2 this.2
def natsU (l : List U8) : List Nat := l.map fun b => b.v.toNat
theorem natsU_len (l : List U8) : (natsU l).length = l.length := by simp [natsU]
theorem natsU_get {l : List U8} {i : Nat} (h : i < l.length) : (natsU l).getD i 0 = (l.getD i Enc.dflt).v.toNat := by
  simp [natsU, List.getD, h]
theorem all_getU {l : List U8} (h : l.all (okA U8) = true) {i : Nat} (hi : i < l.length) : 0 ≤ (l.getD i Enc.dflt).v ∧ (l.getD i Enc.dflt).v < 256 := by
  rw [List.all_eq_true] at h
  exact (okU_iff _).1 (h _ (by simp [List.getD, hi]))
theorem bytesW_of {w : World} {F : Nat → Prop} {y : Value} {l : List U8} {c : Nat} (hl : l.length ≤ 1000000) (hok : l.all (okA U8) = true) (h : TRo w F (tdL l c) y) : BytesW w y (natsU l) := by
  have hm : (natsU l).length ≤ maxLen := by rw [natsU_len]; unfold maxLen; omega
  have hb : ∀ i, i < (natsU l).length → (natsU l).getD i 0 < 256 := fun i hi => by
    rw [natsU_len] at hi
    rw [natsU_get hi]
    have := all_getU hok hi
    omega
  rcases h with ⟨h0, _, rfl⟩ | ⟨h0, _, a, c', rfl⟩ | ⟨h0, b, o, c', rfl, h2, h3, h4⟩
  · have : l = [] := List.eq_nil_of_length_eq_zero h0
    subst this
    exact ⟨none, 0, rfl, hm, hb, fun h => absurd rfl h⟩
  · have : l = [] := List.eq_nil_of_length_eq_zero h0
    subst this
    exact ⟨some a, c', rfl, hm, hb, fun h => absurd rfl h⟩
  · refine ⟨some ⟨b, o, none⟩, c', by rw [natsU_len], hm, hb, fun _ => ⟨b, o, rfl, h3, fun i hi => ?_⟩⟩
    rw [natsU_len] at hi
    obtain ⟨z, z1, z2, z3⟩ := h4 i hi 0 (by show 0 < 1; omega)
    have z3 : VR noRho (.int .u8 (l.getD i Enc.dflt).v) z := z3
    cases z3
    have he : o + i = o + i * Enc.es U8 + 0 := by rw [esU]; omega
    rw [he, z1, natsU_get hi]
    have := all_getU hok hi
    rw [Int.toNat_of_nonneg this.1]
theorem sum_told {P : Program} {g : FuncId} (h : ∀ (v : Value) (bs : List Nat) (w : World), BytesW w v bs → Calls P g #[v] w fun e w' => e = .returned (.int .u32 (refSum bs : Nat)) ∧ Below w.heap.size w w') :
    ToldW P g (ok1 U8 fun l _ => l.all (okA U8)) (ans1 U8 fun l _ => .ret (.cell (.sc (.int .u32 (Int.ofNat (refSum (natsU l))))))) := by
  intro ts hok w args' F hF ha
  unfold ok1 at hok
  split at hok
  · rename_i t
    simp only [Bool.and_eq_true] at hok
    obtain ⟨h1, h2⟩ := okT_len hok.1
    obtain ⟨y, m, e, hy, hm'⟩ := ha.uncons
    have := hm'.nil_inv
    subst this
    have : args' = #[y] := by
      have := congrArg List.toArray e
      simpa using this
    subst this
    refine (h y (natsU (listT U8 t)) w (bytesW_of h1 hok.2 (okT_TRo hok.1 hy))).mono fun e w' ⟨he, hb⟩ => ?_
    subst he
    exact ⟨hb, F, fun b hb => .inr hb, _, [], rfl, ⟨rfl, .int _ _⟩, List.nodup_nil⟩
  · cases hok
end Go.Proofs.Ytiodkfbmcnfooaa.Ev
