/-
  Rows of bytes, however they came about, as lists.
-/
import Derived.Test.YtiodkfbmcnfooaaFrM
set_option linter.unusedVariables false
set_option linter.unusedSimpArgs false
namespace Go.Proofs.Ytiodkfbmcnfooaa.Ev
open Go Go.Proofs Go.RowKit

def isU (t : Td) : Prop := ∃ v : Int, t = .sc (.int .u8 v)
theorem mrgU {t u : Td} (ht : isU t) (hu : isU u) : mrgT true t u = t ∧ mrgT false t u = u ∧ ∀ b, isU (mrgT b t u) := by
  obtain ⟨v, rfl⟩ := ht
  obtain ⟨v', rfl⟩ := hu
  exact ⟨rfl, rfl, fun b => ⟨cond b v v', rfl⟩⟩
structure RowU (e : Nat → Nat → Td) (n : Nat) (L : List U8) : Prop where
  len : n = L.length
  at_ : ∀ i, i < n → e i 0 = encL L i 0
  u : ∀ i, isU (e i 0)
theorem RowU.enc (L : List U8) : RowU (encL L) L.length L := ⟨rfl, fun _ _ => rfl, fun i => ⟨_, rfl⟩⟩
theorem RowU.zero (n : Nat) : RowU (fun _ k => nthT [.sc (.int .u8 0)] k) n (List.replicate n ⟨0⟩) := ⟨by simp, fun i hi => by simp [encL, List.getD, hi]; rfl, fun i => ⟨0, rfl⟩⟩
theorem RowU.sel2 (v0 v1 : Int) : RowU (fun i k => selT 1 (1 + 1) [.sc (.int .u8 v0), .sc (.int .u8 v1)] i k) (1 + 1) [⟨v0⟩, ⟨v1⟩] := ⟨rfl, fun i hi => match i, hi with
  | 0, _ => rfl
  | 1, _ => rfl, fun i => ⟨_, rfl⟩⟩
theorem RowU.sel4 (v0 v1 v2 v3 : Int) : RowU (fun i k => selT 1 (1 + 1 + 1 + 1) [.sc (.int .u8 v0), .sc (.int .u8 v1), .sc (.int .u8 v2), .sc (.int .u8 v3)] i k) (1 + 1 + 1 + 1) [⟨v0⟩, ⟨v1⟩, ⟨v2⟩, ⟨v3⟩] := ⟨rfl, fun i hi => match i, hi with
  | 0, _ => rfl
  | 1, _ => rfl
  | 2, _ => rfl
  | 3, _ => rfl, fun i => ⟨_, rfl⟩⟩
theorem RowU.app {e1 e2 : Nat → Nat → Td} {n1 n2 : Nat} {L1 L2 : List U8} (h1 : RowU e1 n1 L1) (h2 : RowU e2 n2 L2) : RowU (fun i k => mrgT (Nat.blt i n1) (e1 i k) (e2 (i - n1) k)) (n1 + n2) (L1 ++ L2) := by
  refine ⟨by rw [h1.len, h2.len, List.length_append], fun i hi => ?_, fun i => (mrgU (h1.u i) (h2.u _)).2.2 _⟩
  have hu := mrgU (h1.u i) (h2.u (i - n1))
  by_cases hil : i < n1
  · have hb : Nat.blt i n1 = true := by simpa using hil
    show mrgT (Nat.blt i n1) _ _ = _
    rw [hb, hu.1, h1.at_ i hil, encL_app_lt _ _ (by rw [← h1.len]; exact hil)]
  · show mrgT (Nat.blt i n1) _ _ = _
    rw [blt_false hil, hu.2.1, h2.at_ _ (by omega), encL_app_ge _ _ (by rw [← h1.len]; omega), ← h1.len]
theorem RowU.sub {e : Nat → Nat → Td} {n k m : Nat} {L : List U8} (h : RowU e n L) (hk : k + m ≤ n) : RowU (fun i => e (k + i)) m ((L.drop k).take m) := by
  have hl := h.len
  refine ⟨by simp; omega, fun i hi => ?_, fun i => h.u _⟩
  show e (k + i) 0 = _
  rw [h.at_ _ (by omega)]
  show Enc.enc (L.getD (k + i) Enc.dflt) 0 = Enc.enc (((L.drop k).take m).getD i Enc.dflt) 0
  have := mid_get L (k := k) (n := m) (i := i) (by omega) hi Enc.dflt
  simp only [List.getD] at this ⊢
  rw [this]; rfl
theorem RowU.put {e : Nat → Nat → Td} {n i0 : Nat} {v : Int} {L : List U8} (h : RowU e n L) (hi : i0 < n) : RowU (putT i0 0 [.sc (.int .u8 v)] e) n (L.set i0 ⟨v⟩) := by
  have hl := h.len
  refine ⟨by simp [hl], fun i hi' => ?_, fun i => (mrgU ⟨v, rfl⟩ (h.u i)).2.2 _⟩
  have hu := mrgU (t := .sc (.int .u8 v)) ⟨v, rfl⟩ (h.u i)
  show mrgT (Nat.beq i i0) (.sc (.int .u8 v)) (e i 0) = Enc.enc ((L.set i0 ⟨v⟩).getD i Enc.dflt) 0
  by_cases hii : i = i0
  · subst hii
    rw [Nat.beq_refl, hu.1]
    have : (L.set i ⟨v⟩).getD i Enc.dflt = ⟨v⟩ := by simp [List.getD, show i < L.length by omega]
    rw [this]; rfl
  · rw [beq_false hii, hu.2.1, h.at_ i hi']
    have : (L.set i0 ⟨v⟩).getD i Enc.dflt = L.getD i Enc.dflt := by simp [List.getD, List.getElem?_set_ne (Ne.symm hii)]
    rw [this]; rfl
theorem RowU.to {e : Nat → Nat → Td} {n m : Nat} {L M : List U8} (h : RowU e n L) (hn : m = n) (hL : L = M) : RowU e m M := by subst hn hL; exact h
theorem RowU.list {e : Nat → Nat → Td} {n c : Nat} {L : List U8} (h : RowU e n L) : listT U8 (Td.fr 1 n c e) = L := by
  have hl := h.len
  subst hl
  show decL L.length e = L
  rw [decL_congr (e' := encL L) fun i hi => by show u8D (e i) = u8D (encL L i); unfold u8D; rw [h.at_ i hi]]
  exact decL_encL L
theorem RowU.okT {e : Nat → Nat → Td} {n c : Nat} {L : List U8} (h : RowU e n L) (hok : L.all (okA U8) = true) (hn : n ≤ 1000000) (hc : c ≤ 1) : Ev.okT U8 (Td.fr 1 n c e) = true := by
  have hl := h.len
  subst hl
  simp only [Ev.okT, Bool.or_eq_true, Bool.and_eq_true]
  refine .inl ⟨⟨⟨Nat.beq_refl _, ?_⟩, Nat.ble_eq_true_of_le hc⟩, Nat.ble_eq_true_of_le hn⟩
  rw [okL_congr (e' := encL L) fun i hi => by show u8Ok (e i) = u8Ok (encL L i); unfold u8Ok; rw [h.at_ i hi]]
  exact okL_encL hok
theorem RowU.ok1 {e : Nat → Nat → Td} {n c : Nat} {L : List U8} (h : RowU e n L) (hok : L.all (okA U8) = true) (hn : n ≤ 1000000) (hc : c ≤ 1) : Ev.ok1 U8 (fun l _ => l.all (okA U8)) [Ta.cell (Td.fr 1 n c e)] = true := by
  show (Ev.okT U8 _ && (listT U8 _).all (okA U8)) = true
  rw [h.okT hok hn hc, h.list, hok]; rfl
theorem RowU.obj {e : Nat → Nat → Td} {n : Nat} {L : List U8} (h : RowU e n L) {k : Rk} (ρ : Rho) (s : Spot) (w : World) (ho : ObjR ρ (.row k 1 0 n e) s w) : ObjR ρ (rowO k L) s w := by
  have hl := h.len
  subst hl
  refine ho.row_TR rfl fun i _ hi j hj F y ht => ?_
  have hj : j < 1 := hj
  have : j = 0 := by omega
  subst this
  rw [h.at_ i hi] at ht
  exact ht
theorem RowU.str {e : Nat → Nat → Td} {n : Nat} {L : List U8} (h : RowU e n L) : strOf n e = strU L := by
  have hl := h.len
  subst hl
  rw [← strOf_all]
  unfold strOf
  congr 2
  exact List.map_congr_left fun i hi => by rw [h.at_ i (List.mem_range.1 hi)]
theorem RowU.allB {e : Nat → Nat → Td} {n m : Nat} {L : List U8} (h : RowU e n L) : Ev.allB m e = true := by
  unfold Ev.allB
  rw [List.all_eq_true]
  intro i _
  obtain ⟨v, hv⟩ := h.u i
  rw [hv]; rfl
/-- an answer that is a row of bytes of one's own -/
theorem RowU.leaf {e : Nat → Nat → Td} {n k : Nat} {L : List U8} {l : List (Option AObj)} (h : RowU e n L) (hl : l[k]? = some (some (.row .mine 1 0 n e))) : objsR l (atL l.length k (rowO .mine L)) := outAt hl rfl h.obj
end Go.Proofs.Ytiodkfbmcnfooaa.Ev
