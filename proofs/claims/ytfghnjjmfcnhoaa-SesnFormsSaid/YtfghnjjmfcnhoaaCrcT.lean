/-
  The sum of a row of bytes, told to the evaluator.
-/
import Derived.Test.YtfghnjjmfcnhoaaTo
import Derived.Test.YtfghnjjmfcnhoaaCrc
import Derived.Test.YtfghnjjmfcnhoaaCrcMath
set_option linter.unusedVariables false
set_option linter.unusedSimpArgs false
namespace Go.Proofs.Ytfghnjjmfcnhoaa.Ev
open Go Go.RowKit

def byteN (l : List Value) : Nat := match l with
  | [.int .u8 x] => x.toNat
  | _ => 0
def isByteN (l : List Value) : Bool := match l with
  | [.int .u8 x] => decide (0 ≤ x) && decide (x < 256)
  | _ => false
def bytesN (n : Nat) (f : Nat → List Value) : List Nat := (List.range n).map fun j => byteN (f j)
def allN (n : Nat) (f : Nat → List Value) : Bool := (List.range n).all fun j => isByteN (f j)
theorem allN_of {n : Nat} {f : Nat → List Value} (h : ∀ j, j < n → isByteN (f j) = true) : allN n f = true := by
  unfold allN
  rw [List.all_eq_true]
  exact fun j hj => h j (List.mem_range.1 hj)
theorem isByteN_inv {l : List Value} (h : isByteN l = true) : ∃ x : Int, l = [.int .u8 x] ∧ 0 ≤ x ∧ x < 256 := by
  unfold isByteN at h
  split at h
  · rename_i x
    simp only [Bool.and_eq_true, decide_eq_true_eq] at h
    exact ⟨x, rfl, h.1, h.2⟩
  · cases h
theorem allN_at {n : Nat} {f : Nat → List Value} (h : allN n f = true) {j : Nat} (hj : j < n) : ∃ x : Int, f j = [.int .u8 x] ∧ 0 ≤ x ∧ x < 256 := by
  unfold allN at h
  rw [List.all_eq_true] at h
  exact isByteN_inv (h j (List.mem_range.2 hj))
theorem bytesN_len (n : Nat) (f : Nat → List Value) : (bytesN n f).length = n := by simp [bytesN]
theorem bytesN_get {n : Nat} {f : Nat → List Value} {j : Nat} (hj : j < n) : (bytesN n f).getD j 0 = byteN (f j) := by
  simp [bytesN, List.getD, List.getElem?_map, List.getElem?_range hj]
/-- the bytes of a slice -/
def sliceBytes (st : ASt) (v : Value) (K : List Nat → Prop) : Prop := match v with
  | .slice none 0 0 => K []
  | .slice (some ⟨b0, 0, some i0⟩) n _ => match st.h.get b0 with
    | some (.row _ es lo m f) => cond (Nat.beq es 1) (need (Nat.ble lo i0 && Nat.ble (i0 + n) m) (need (Nat.ble n 1000000) (need (allN n fun j => f (i0 + j)) (K (bytesN n fun j => f (i0 + j)))))) False
    | _ => False
  | .slice (some ⟨b0, o0, none⟩) n _ => match st.read ⟨b0, o0, none⟩ n with
    | .ok l => cond (Nat.ble n 1000000 && l.all fun v => isByteN [v]) (K (l.map fun v => byteN [v])) False
    | .er _ _ => False
  | _ => False
def sliceBytesR (st : ASt) (v : Value) : Option (List Nat) := match v with
  | .slice none 0 0 => some []
  | .slice (some ⟨b0, 0, some i0⟩) n _ => match st.h.get b0 with
    | some (.row _ es lo m f) => cond (Nat.beq es 1) (cond (Nat.ble lo i0 && Nat.ble (i0 + n) m) (cond (Nat.ble n 1000000) (cond (allN n fun j => f (i0 + j)) (some (bytesN n fun j => f (i0 + j))) none) none) none) none
    | _ => none
  | .slice (some ⟨b0, o0, none⟩) n _ => match st.read ⟨b0, o0, none⟩ n with
    | .ok l => cond (Nat.ble n 1000000 && l.all fun v => isByteN [v]) (some (l.map fun v => byteN [v])) none
    | .er _ _ => none
  | _ => none
theorem sliceBytes_ok {st : ASt} {v : Value} {K : List Nat → Prop} (h : sliceBytes st v K) : ∃ l, sliceBytesR st v = some l ∧ K l := by
  unfold sliceBytes at h
  split at h
  · exact ⟨[], rfl, h⟩
  · rename_i b0 i0 n c
    split at h
    · rename_i own es lo m f hg
      cases he : Nat.beq es 1 with
      | false => rw [he] at h; exact h.elim
      | true =>
        rw [he] at h
        obtain ⟨h1, h⟩ := need_elim h
        obtain ⟨h2, h⟩ := need_elim h
        obtain ⟨h3, h⟩ := need_elim h
        exact ⟨_, by simp only [sliceBytesR, hg, he, h1, h2, h3, cond_true], h⟩
    · exact h.elim
  · rename_i b0 o0 n c
    split at h
    · rename_i l hl
      cases hb : (Nat.ble n 1000000 && l.all fun v => isByteN [v]) with
      | false => rw [hb] at h; exact h.elim
      | true => rw [hb] at h; exact ⟨_, by simp only [sliceBytesR, hl, hb, cond_true], h⟩
    · exact h.elim
  · exact h.elim
def sumC (sum : List Nat → Nat) : TCon where
  run args st := match args with
    | [v] => match sliceBytesR st v with
      | some l => .ok (.returned (.int .u32 (Int.ofNat (sum l))), st)
      | none => .er "sum"
    | _ => .er "sum"
  sym args st K := match args with
    | [v] => sliceBytes st v fun l => K (.returned (.int .u32 (Int.ofNat (sum l)))) st
    | _ => False
  ok args st K h := by
    split at h
    · obtain ⟨l, h1, h2⟩ := sliceBytes_ok h
      exact ⟨_, _, by simp only [h1], h2⟩
    · exact h.elim
theorem optc {α : Type} {c : Bool} {x : Option α} {r : α} (h : cond c x none = some r) : c = true ∧ x = some r := by
  cases c with
  | true => exact ⟨rfl, h⟩
  | false => cases h
/-- what the world has -/
theorem bytes_world {ρ : Rho} {st : ASt} {w : World} {v x : Value} {bs : List Nat} (h : sliceBytesR st v = some bs) (hw : WR ρ st.h.get w) (hx : VR ρ v x) : BytesW w x bs := by
  unfold sliceBytesR at h
  split at h
  · cases h
    cases hx
    exact ⟨none, 0, rfl, Nat.zero_le _, fun i hi => by simp at hi, fun h => absurd rfl h⟩
  · rename_i b0 i0 n c
    split at h
    · rename_i own es lo m f hg
      obtain ⟨h1, h⟩ := optc h
      obtain ⟨h2, h⟩ := optc h
      obtain ⟨h3, h⟩ := optc h
      obtain ⟨h4, h⟩ := optc h
      cases h
      have := Nat.eq_of_beq_eq_true h1
      subst this
      simp only [Bool.and_eq_true] at h2
      have k1 := Nat.le_of_ble_eq_true h2.1
      have k2 := Nat.le_of_ble_eq_true h2.2
      have k3 := Nat.le_of_ble_eq_true h3
      have hlt : ∀ i, i < (bytesN n fun j => f (i0 + j)).length → (bytesN n fun j => f (i0 + j)).getD i 0 < 256 := by
        intro i hi
        rw [bytesN_len] at hi
        obtain ⟨y, e1, e2, e3⟩ := allN_at h4 hi
        rw [bytesN_get hi, e1]
        simp only [byteN]; omega
      have hmax : (bytesN n fun j => f (i0 + j)).length ≤ maxLen := by rw [bytesN_len]; unfold maxLen; omega
      have h0 : n = 0 → (bytesN n fun j => f (i0 + j)) = [] := fun h => by subst h; rfl
      obtain ⟨s, e1, f1, f2, f3, f4⟩ := hw.obj _ _ hg
      cases hx with
      | sliceI _ _ s' _ _ c' o' hs hn hc hr hv ho =>
        rw [e1] at hs; cases hs
        refine ⟨some ⟨s.blk, o', none⟩, c', by rw [bytesN_len], hmax, hlt, fun hne => ?_⟩
        have hn0 : 0 < n := by
          rcases Nat.eq_zero_or_pos n with h | h
          · exact absurd (h0 h) hne
          · exact h
        have ho : o' = s.base + i0 * s.es := by rcases ho with h | h <;> omega
        refine ⟨s.blk, o', rfl, hw.blk _ _ e1 hv, fun i hi => ?_⟩
        rw [bytesN_len] at hi
        obtain ⟨y, q1, q2, q3⟩ := allN_at h4 hi
        obtain ⟨z, z1, z2, z3⟩ := (f4 (i0 + i) (by omega) (by omega)).2 0 (.int .u8 y) (by rw [q1]; rfl)
        cases z3
        rw [bytesN_get hi, q1, ho]
        have : s.base + i0 * s.es + i = s.base + (i0 + i) * s.es + 0 := by rw [f1]; omega
        rw [this, z1]
        simp only [byteN]
        rw [Int.toNat_of_nonneg q2]
      | sliceE _ _ c' y s' hs hex => exact ⟨_, c', rfl, hmax, hlt, fun hne => absurd (h0 rfl) hne⟩
      | sliceN => exact ⟨none, 0, rfl, hmax, hlt, fun hne => absurd (h0 rfl) hne⟩
      | sliceZ _ _ y => exact ⟨_, 0, rfl, hmax, hlt, fun hne => absurd (h0 rfl) hne⟩
    · cases h
  · rename_i b0 o0 n c
    split at h
    · rename_i l hl
      obtain ⟨h1, h⟩ := optc h
      cases h
      simp only [Bool.and_eq_true] at h1
      have k3 := Nat.le_of_ble_eq_true h1.1
      have hall := h1.2
      rw [List.all_eq_true] at hall
      cases hx with
      | slice _ _ s _ _ c' o' hs hn hc hx2 hr ho =>
        obtain ⟨l', r1, r2, r3⟩ := read_rel hl hw hs
        have hlen : l.length = n := by rw [r1.1, r2]
        have hat : ∀ i, i < l.length → ∃ y : Int, l[i]? = some (.int .u8 y) ∧ 0 ≤ y ∧ y < 256 ∧ (l.map fun v => byteN [v]).getD i 0 = y.toNat := by
          intro i hi
          obtain ⟨y, e1, e2, e3⟩ := isByteN_inv (hall l[i] (List.getElem_mem hi))
          have e1 : l[i] = .int .u8 y := by simpa using e1
          have e4 : l[i]? = some (.int .u8 y) := by rw [List.getElem?_eq_getElem hi, e1]
          refine ⟨y, e4, e2, e3, ?_⟩
          simp [List.getD, List.getElem?_map, e4, byteN]
        refine ⟨some ⟨s.blk, o', none⟩, c', by simp [hlen], by simp [hlen]; unfold maxLen; omega, fun i hi => ?_, fun hne => ?_⟩
        · obtain ⟨y, _, e2, e3, e4⟩ := hat i (by simpa using hi)
          rw [e4]; omega
        · have hn0 : 0 < n := by
            rcases Nat.eq_zero_or_pos n with h | h
            · rw [h] at hlen
              have := List.eq_nil_of_length_eq_zero hlen
              subst this
              exact absurd rfl hne
            · exact h
          have ho : o' = s.base + o0 := by rcases ho with h | h <;> omega
          have hcl : ∀ i, i < l.length → w.cell? ⟨s.blk, o' + i, none⟩ = some (.int .u8 ((l.map fun v => byteN [v]).getD i 0 : Nat)) := by
            intro i hi
            obtain ⟨y, e1, e2, e3, e4⟩ := hat i hi
            obtain ⟨z, z1, z2⟩ := r1.get e1
            have := r3 i z z1
            cases z2
            rw [e4, Int.toNat_of_nonneg e2, ho, ← this, add_at]
            rfl
          refine ⟨s.blk, o', rfl, ?_, fun i hi => hcl i (by simpa using hi)⟩
          exact cell_lt (hcl 0 (by omega))
    · cases h
  · cases h
theorem sum_told {P : Program} {g : FuncId} {sum : List Nat → Nat} (h : ∀ (v : Value) (bs : List Nat) (w : World), BytesW w v bs → Calls P g #[v] w fun e w' => e = .returned (.int .u32 (sum bs : Nat)) ∧ Below w.heap.size w w') : ToldG P g (sumC sum) := by
  intro args st r st' hwf hr
  simp only [sumC] at hr
  split at hr
  · rename_i v
    split at hr
    · rename_i l hl
      cases hr
      refine ⟨LoS.refl _, fun ρ w args' ha hw hfr => ?_⟩
      obtain ⟨x, l', e1, hx, hl'⟩ := ha.uncons
      have := hl'.nil_inv
      subst this
      have hargs : args' = #[x] := by
        have : args'.toList = #[x].toList := e1
        exact Array.toList_inj.1 this
      subst hargs
      refine (h x l w (bytes_world hl hw hx)).mono fun e w' ⟨he, hb⟩ => ?_
      subst he
      exact ⟨ρ, ⟨_, rfl, .int _ _⟩, Mv.below hw _ hb⟩
    · cases hr
  · cases hr
end Go.Proofs.Ytfghnjjmfcnhoaa.Ev
