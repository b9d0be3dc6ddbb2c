/-
  begun answers true: told to the evaluator.
-/
import Derived.Test.YtdmagcdkklacdaaLaw
import Derived.Test.YtdmagcdkklacdaaEnc
import Derived.Test.YtdmagcdkklacdaaOut
import Derived.Test.YtdmagcdkklacdaaCrcMath
set_option linter.unusedVariables false
/-! begun answers true: told to the evaluator. -/
set_option linter.unusedVariables false
namespace Go.Proofs.Ytdmagcdkklacdaa.Ev
open Go

set_option maxRecDepth 1000000
theorem follows : Try.prog.follows .mixedOrders = true := by kernel_rfl
def begunSpec : List Value → Option Value
  | [] => some (.bool true)
  | _ => none
def toldB : Told := noTold.also 7 begunSpec
theorem toldB_ok : ToldS Try.prog toldB := by
  refine Told.also_ok (noTold_ok _) ?_
  intro args v hv
  unfold begunSpec at hv
  split at hv
  · cases hv
    refine ⟨rfl, rfl, fun w args' ha => ?_⟩
    have : args' = #[] := by
      have := ha.1
      simp at this
      exact Array.eq_empty_of_size_eq_zero this.symm
    subst this
    exact (closed_true follows (by kernel_rfl) w).mono fun e w' ⟨h1, h2⟩ => ⟨⟨fun _ => none, _, h1, .bool true⟩, h2⟩
  · cases hv
end Go.Proofs.Ytdmagcdkklacdaa.Ev

/-! Rows of which one element or another one is, read as lists. -/
set_option linter.unusedVariables false
set_option linter.unusedSimpArgs false
set_option linter.unusedSectionVars false
namespace Go.Proofs.Ytdmagcdkklacdaa.Ev
open Go Go.Proofs Go.RowKit

class EncM (α : Type) [Enc α] : Prop where
  cong : ∀ (c c' : Nat → Td), (∀ j, j < Enc.es α → c j = c' j) → (Enc.dec c : α) = Enc.dec c' ∧ Enc.ok α c = Enc.ok α c'
  mt : ∀ (a b : α), Enc.dec (fun j => mrgT true (Enc.enc a j) (Enc.enc b j)) = a ∧ Enc.ok α (fun j => mrgT true (Enc.enc a j) (Enc.enc b j)) = Enc.ok α (Enc.enc a)
  mf : ∀ (a b : α), Enc.dec (fun j => mrgT false (Enc.enc a j) (Enc.enc b j)) = b ∧ Enc.ok α (fun j => mrgT false (Enc.enc a j) (Enc.enc b j)) = Enc.ok α (Enc.enc b)
section
variable {α : Type} [Enc α] [EncM α]
theorem mrgT_fr (h0 : Enc.es α ≠ 0) (b : Bool) (l m : List α) (c d : Nat) : mrgT b (.fr (Enc.es α) l.length c (encL l)) (.fr (Enc.es α) m.length d (encL m)) = .fr (Enc.es α) (cond b l.length m.length) (cond b c d) fun i j => mrgT b (encL l i j) (encL m i j) := by
  have hs : sameEs (Enc.es α) l.length (Enc.es α) m.length = true := by simp [sameEs, Nat.beq_refl]
  simp only [mrgT, hs, cond_true, beq_false h0, cond_false]
theorem decL_congr {n : Nat} {e e' : Nat → Nat → Td} (h : ∀ i, i < n → (Enc.dec (e i) : α) = Enc.dec (e' i)) : (decL n e : List α) = decL n e' := by
  unfold decL
  exact List.map_congr_left fun i hi => h i (List.mem_range.1 hi)
theorem okL_congr {n : Nat} {e e' : Nat → Nat → Td} (h : ∀ i, i < n → Enc.ok α (e i) = Enc.ok α (e' i)) : okL α n e = okL α n e' := by
  unfold okL
  rw [Bool.eq_iff_iff, List.all_eq_true, List.all_eq_true]
  exact ⟨fun k i hi => by rw [← h i (List.mem_range.1 hi)]; exact k i hi, fun k i hi => by rw [h i (List.mem_range.1 hi)]; exact k i hi⟩
theorem mrgT_t (h0 : Enc.es α ≠ 0) (l m : List α) (c d : Nat) : listT α (mrgT true (.fr (Enc.es α) l.length c (encL l)) (.fr (Enc.es α) m.length d (encL m))) = l ∧ nilT (mrgT true (.fr (Enc.es α) l.length c (encL l)) (.fr (Enc.es α) m.length d (encL m))) = c ∧ okT α (mrgT true (.fr (Enc.es α) l.length c (encL l)) (.fr (Enc.es α) m.length d (encL m))) = okT α (.fr (Enc.es α) l.length c (encL l)) := by
  rw [mrgT_fr h0]
  refine ⟨?_, rfl, ?_⟩
  · show decL l.length _ = l
    rw [decL_congr (e' := encL l) fun i hi => by show Enc.dec (fun j => mrgT true (Enc.enc (l.getD i Enc.dflt) j) (Enc.enc (m.getD i Enc.dflt) j)) = Enc.dec (Enc.enc (l.getD i Enc.dflt)); rw [(EncM.mt _ _).1, Enc.back]]
    exact decL_encL l
  · simp only [okT, cond_true]
    rw [okL_congr (e := fun i j => mrgT true (encL l i j) (encL m i j)) (e' := encL l) fun i hi => (EncM.mt (l.getD i Enc.dflt) (m.getD i Enc.dflt)).2]
theorem mrgT_f (h0 : Enc.es α ≠ 0) (l m : List α) (c d : Nat) : listT α (mrgT false (.fr (Enc.es α) l.length c (encL l)) (.fr (Enc.es α) m.length d (encL m))) = m ∧ nilT (mrgT false (.fr (Enc.es α) l.length c (encL l)) (.fr (Enc.es α) m.length d (encL m))) = d ∧ okT α (mrgT false (.fr (Enc.es α) l.length c (encL l)) (.fr (Enc.es α) m.length d (encL m))) = okT α (.fr (Enc.es α) m.length d (encL m)) := by
  rw [mrgT_fr h0]
  refine ⟨?_, rfl, ?_⟩
  · show decL m.length _ = m
    rw [decL_congr (e' := encL m) fun i hi => by show Enc.dec (fun j => mrgT false (Enc.enc (l.getD i Enc.dflt) j) (Enc.enc (m.getD i Enc.dflt) j)) = Enc.dec (Enc.enc (m.getD i Enc.dflt)); rw [(EncM.mf _ _).1, Enc.back]]
    exact decL_encL m
  · simp only [okT, cond_false]
    rw [okL_congr (e := fun i j => mrgT false (encL l i j) (encL m i j)) (e' := encL m) fun i hi => (EncM.mf (l.getD i Enc.dflt) (m.getD i Enc.dflt)).2]
/-- a row with one more behind it, as a list -/
theorem app_dec {l : List α} {a : α} {ts : List Td} {e2 : Nat} (h : ∀ j, j < Enc.es α → nthT ts j = Enc.enc a j) (i : Nat) (hi : i < l.length + 1) :
    (Enc.dec (fun j => mrgT (Nat.blt i l.length) (encL l i j) (selT e2 1 ts (i - l.length) j)) : α) = (l ++ [a]).getD i Enc.dflt ∧ Enc.ok α (fun j => mrgT (Nat.blt i l.length) (encL l i j) (selT e2 1 ts (i - l.length) j)) = Enc.ok α (Enc.enc ((l ++ [a]).getD i Enc.dflt)) := by
  have hc := EncM.cong (α := α) (fun j => mrgT (Nat.blt i l.length) (encL l i j) (selT e2 1 ts (i - l.length) j)) (fun j => mrgT (Nat.blt i l.length) (Enc.enc (l.getD i Enc.dflt) j) (Enc.enc a j)) fun j hj => by
    show mrgT _ _ (nthT ts j) = _
    rw [h j hj]; rfl
  rw [hc.1, hc.2]
  by_cases hil : i < l.length
  · have hb : Nat.blt i l.length = true := by simpa using hil
    rw [hb, getD_app_lt _ _ _ hil]
    exact EncM.mt _ _
  · rw [blt_false hil]
    have : i = l.length := by omega
    subst this
    rw [getD_app_ge _ _ _ (Nat.le_refl _), Nat.sub_self]
    exact EncM.mf _ _
theorem listT_app {l : List α} {a : α} {ts : List Td} {es e2 c : Nat} {g : Nat → Nat → Td} (hes : es = Enc.es α) (hg : ∀ i j, g i j = encL l i j) (h : ∀ j, j < Enc.es α → nthT ts j = Enc.enc a j) :
    listT α (.fr es (l.length + 1) c fun i j => mrgT (Nat.blt i l.length) (g i j) (selT e2 1 ts (i - l.length) j)) = l ++ [a] := by
  subst hes
  have hg : g = encL l := by funext i j; exact hg i j
  subst hg
  show decL (l.length + 1) _ = _
  rw [decL_congr (e' := encL (l ++ [a])) fun i hi => by rw [(app_dec h i hi).1]; exact (Enc.back _).symm]
  have := decL_encL (l ++ [a])
  rw [List.length_append] at this
  exact this
theorem okT_app {l : List α} {a : α} {ts : List Td} {es e2 c : Nat} {g : Nat → Nat → Td} (hes : es = Enc.es α) (hg : ∀ i j, g i j = encL l i j) (h : ∀ j, j < Enc.es α → nthT ts j = Enc.enc a j) (hok : (l ++ [a]).all (okA α) = true) (hc : c ≤ 1) (hl : l.length + 1 ≤ 1000000) :
    okT α (.fr es (l.length + 1) c fun i j => mrgT (Nat.blt i l.length) (g i j) (selT e2 1 ts (i - l.length) j)) = true := by
  subst hes
  have hg : g = encL l := by funext i j; exact hg i j
  subst hg
  simp only [okT, Bool.or_eq_true, Bool.and_eq_true]
  refine .inl ⟨⟨⟨Nat.beq_refl _, ?_⟩, Nat.ble_eq_true_of_le hc⟩, Nat.ble_eq_true_of_le hl⟩
  rw [okL_congr (e' := encL (l ++ [a])) fun i hi => (app_dec h i hi).2]
  have := okL_encL hok
  rw [List.length_append] at this
  exact this
end
end Go.Proofs.Ytdmagcdkklacdaa.Ev

/-! Bytes as data that lie in cells; the sums of such rows told to the evaluator. -/
set_option linter.unusedVariables false
set_option linter.unusedSimpArgs false
namespace Go.Proofs.Ytdmagcdkklacdaa.Ev
open Go Go.Proofs Go.RowKit

structure U8 where
  v : Int
def u8E (a : U8) (_ : Nat) : Td := .sc (.int .u8 a.v)
def u8D (c : Nat → Td) : U8 := match c 0 with
  | .sc (.int .u8 a) => ⟨a⟩
  | _ => ⟨0⟩
def u8Ok (c : Nat → Td) : Bool := match c 0 with
  | .sc (.int .u8 a) => decide (0 ≤ a) && decide (a < 256)
  | _ => false
theorem u8Ok_inv {c : Nat → Td} (h : u8Ok c = true) : c 0 = .sc (.int .u8 (u8D c).v) ∧ 0 ≤ (u8D c).v ∧ (u8D c).v < 256 := by
  unfold u8Ok at h
  split at h
  · rename_i a h0
    simp only [Bool.and_eq_true, decide_eq_true_eq] at h
    simp only [u8D, h0]
    exact ⟨trivial, h.1, h.2⟩
  · cases h
instance encU : Enc U8 where
  es := 1
  enc := u8E
  dec := u8D
  ok := u8Ok
  dflt := ⟨0⟩
  good c := u8Ok c = true
  okgood c h := h
  law c h w F j y hj ht := by
    have : j = 0 := by omega
    subst this
    rw [(u8Ok_inv h).1] at ht
    exact ht
  back a := rfl
  mrg a b w F j y hj := ⟨fun h => h, fun h => h⟩
instance : EncM U8 where
  cong c c' h := by
    have h0 : c 0 = c' 0 := h 0 (by show 0 < 1; omega)
    exact ⟨by show u8D c = u8D c'; unfold u8D; rw [h0], by show u8Ok c = u8Ok c'; unfold u8Ok; rw [h0]⟩
  mt a b := ⟨rfl, rfl⟩
  mf a b := ⟨rfl, rfl⟩
theorem esU : Enc.es U8 = 1 := rfl
def okU (b : U8) : Bool := decide (0 ≤ b.v) && decide (b.v < 256)
theorem okA_u8 (a : U8) : okA U8 a = okU a := rfl
theorem okU_iff (a : U8) : okA U8 a = true ↔ 0 ≤ a.v ∧ a.v < 256 := by
  rw [okA_u8]; simp [okU]
def shU (_ : Nat) : Sh := .int .u8
theorem goodU (c : Nat → Td) (h : ∀ j, j < 1 → ShOk (shU j) (c j)) : Enc.good U8 c := by
  have h0 := h 0 (by omega)
  show u8Ok c = true
  unfold u8Ok
  revert h0
  cases c 0 with
  | fr => intro h; exact h.elim
  | sc x =>
    cases x with
    | int k n =>
      intro h
      obtain ⟨rfl, hw⟩ := h
      simp [Lit.wf, IntKind.min, IntKind.max, IntKind.signed, IntKind.bits] at hw
      show (decide (0 ≤ n) && decide (n < 256)) = true
      simp; omega
    | _ => intro h; exact h.elim
theorem goodU_all {t : Td} (h : goodT U8 t) : (listT U8 t).all (okA U8) = true := by
  rw [List.all_eq_true]
  refine goodT_all (p := fun b => okA U8 b = true) (fun c hc => ?_) h
  have := u8Ok_inv hc
  exact (okU_iff _).2 this.2
def natsU (l : List U8) : List Nat := l.map fun b => b.v.toNat
theorem natsU_len (l : List U8) : (natsU l).length = l.length := by simp [natsU]
theorem natsU_get {l : List U8} {i : Nat} (h : i < l.length) : (natsU l).getD i 0 = (l.getD i Enc.dflt).v.toNat := by
  simp [natsU, List.getD, h]
theorem all_getU {l : List U8} (h : l.all (okA U8) = true) {i : Nat} (hi : i < l.length) : 0 ≤ (l.getD i Enc.dflt).v ∧ (l.getD i Enc.dflt).v < 256 := by
  rw [List.all_eq_true] at h
  exact (okU_iff _).1 (h _ (by simp [List.getD, hi]))
theorem bytesW_of {w : World} {F : Nat → Prop} {y : Value} {l : List U8} {c : Nat} (hl : l.length ≤ 1000000) (hok : l.all (okA U8) = true) (h : TRo w F (tdL l c) y) : BytesW w y (natsU l) := by
  have hm : (natsU l).length ≤ maxLen := by rw [natsU_len]; unfold maxLen; omega
  have hb : ∀ i, i < (natsU l).length → (natsU l).getD i 0 < 256 := fun i hi => by
    rw [natsU_len] at hi
    rw [natsU_get hi]
    have := all_getU hok hi
    omega
  rcases h with ⟨h0, _, rfl⟩ | ⟨h0, _, a, c', rfl⟩ | ⟨h0, b, o, c', rfl, h2, h3, h4⟩
  · have : l = [] := List.eq_nil_of_length_eq_zero h0
    subst this
    exact ⟨none, 0, rfl, hm, hb, fun h => absurd rfl h⟩
  · have : l = [] := List.eq_nil_of_length_eq_zero h0
    subst this
    exact ⟨some a, c', rfl, hm, hb, fun h => absurd rfl h⟩
  · refine ⟨some ⟨b, o, none⟩, c', by rw [natsU_len], hm, hb, fun _ => ⟨b, o, rfl, h3, fun i hi => ?_⟩⟩
    rw [natsU_len] at hi
    obtain ⟨z, z1, z2, z3⟩ := h4 i hi 0 (by show 0 < 1; omega)
    have z3 : VR noRho (.int .u8 (l.getD i Enc.dflt).v) z := z3
    cases z3
    have he : o + i = o + i * Enc.es U8 + 0 := by rw [esU]; omega
    rw [he, z1, natsU_get hi]
    have := all_getU hok hi
    rw [Int.toNat_of_nonneg this.1]
theorem sum_told {P : Program} {g : FuncId} (h : ∀ (v : Value) (bs : List Nat) (w : World), BytesW w v bs → Calls P g #[v] w fun e w' => e = .returned (.int .u32 (refSum bs : Nat)) ∧ Below w.heap.size w w') :
    ToldW P g (ok1 U8 fun l _ => l.all (okA U8)) (ans1 U8 fun l _ => .ret (.cell (.sc (.int .u32 (Int.ofNat (refSum (natsU l))))))) := by
  intro ts hok w args' F hF ha
  unfold ok1 at hok
  split at hok
  · rename_i t
    simp only [Bool.and_eq_true] at hok
    obtain ⟨h1, h2⟩ := okT_len hok.1
    obtain ⟨y, m, e, hy, hm'⟩ := ha.uncons
    have := hm'.nil_inv
    subst this
    have : args' = #[y] := by
      have := congrArg List.toArray e
      simpa using this
    subst this
    refine (h y (natsU (listT U8 t)) w (bytesW_of h1 hok.2 (okT_TRo hok.1 hy))).mono fun e w' ⟨he, hb⟩ => ?_
    subst he
    exact ⟨hb, F, fun b hb => .inr hb, _, [], rfl, ⟨rfl, .int _ _⟩, List.nodup_nil⟩
  · cases hok
end Go.Proofs.Ytdmagcdkklacdaa.Ev

/-! Sums of bytes, slices.Clone of bytes: told to the evaluator. -/
set_option linter.unusedVariables false
set_option linter.unusedSimpArgs false
set_option maxRecDepth 1000000
namespace Go.Proofs.Ytdmagcdkklacdaa.Ev
open Go Go.Proofs Go.RowKit

theorem csum_told : ToldW Try.prog 27 (ok1 U8 fun l _ => l.all (okA U8)) (ans1 U8 fun l _ => .ret (.cell (.sc (.int .u32 (Int.ofNat (refSum (natsU l))))))) := sum_told fun v bs w h => by rw [← crcSum_eq]; exact sum_anyW v bs w h
theorem rsum_told : ToldW Try.prog 20 (ok1 U8 fun l _ => l.all (okA U8)) (ans1 U8 fun l _ => .ret (.cell (.sc (.int .u32 (Int.ofNat (refSum (natsU l))))))) := sum_told fun v bs w h => (refSum_anyW v bs w h).mono fun e w' ⟨he, hw⟩ => ⟨he, by subst hw; exact Below.refl _ _⟩
theorem cloneU_told : ToldW Try.prog 14 (okC 1) (ansC 1) := clone_told follows (fun n c f β K => by kernel_rfl) (fun es' f β K => by kernel_rfl)
def toldU : Told := ((toldB.tree 27 (ok1 U8 fun l _ => l.all (okA U8)) (ans1 U8 fun l _ => .ret (.cell (.sc (.int .u32 (Int.ofNat (refSum (natsU l)))))))).tree 20 (ok1 U8 fun l _ => l.all (okA U8)) (ans1 U8 fun l _ => .ret (.cell (.sc (.int .u32 (Int.ofNat (refSum (natsU l)))))))).tree 14 (okC 1) (ansC 1)
theorem toldU_ok : ToldS Try.prog toldU := Told.tree_ok (Told.tree_ok (Told.tree_ok toldB_ok csum_told) rsum_told) cloneU_told
end Go.Proofs.Ytdmagcdkklacdaa.Ev

/-! What has to hold: printed by the evaluator. -/
set_option linter.unusedVariables false
set_option maxRecDepth 1000000
namespace Go.Proofs.Ytdmagcdkklacdaa.Ev
open Go Go.Proofs
def slE : List Nat := [0, 1, 12, 13]
def lvE : AX → List Nat := fun x => match x with
  | .ret => [4]
  | _ => slE
def FE (l m : List U8) (c d : Nat) (i : Int) : AFr := mkF 26 [(0, .slice (some ⟨0, 0, some 0⟩) l.length c), (1, .slice (some ⟨1, 0, some 0⟩) m.length d), (12, .int .i64 (Int.ofNat l.length)), (13, .int .i64 i)]
def SE (l m : List U8) : ASt := mkS [some (rowO .look l), some (rowO .look m)]
def FEr (q : Bool) : AFr := mkF 26 [(4, .bool q)]
def sameU (l m : List U8) : Bool := decide (l.length = m.length) && (List.range l.length).all fun i => decide ((l.getD i Enc.dflt).v = (m.getD i Enc.dflt).v)
def exE (l m : List U8) (c d : Nat) : Nat → Kt → Prop := fun b K => (sameU l m = true → K (.exit b) (FE l m c d l.length) (SE l m)) ∧ (sameU l m = false → K .ret (FEr false) (SE l m))
def shpE (l m : List U8) (c d : Nat) (i' : Int) : AFr × ASt := (FE l m c d i', SE l m)
def shpEr (l m : List U8) (q' : Bool) : AFr × ASt := (FEr q', SE l m)
theorem vc_eq (l m : List U8) (c d : Nat) (β : Bs) (K : AE → Prop) : lawE Try.prog toldU 100 20 β (fun _ => 0) (cnOf 2 fun _ => slE) (exE l m c d) 25 [.slice (some ⟨0, 0, some 0⟩) l.length c, .slice (some ⟨1, 0, some 0⟩) m.length d] (mkS [some (rowO .look l), some (rowO .look m)]) (fun r _ => K r) =
(  br (Int.ofNat (List.length l) != Int.ofNat (List.length m)) (K (AE.returned (Value.bool false)))
  (LoopJ Try.prog β (exE l m c d) 0 (loopOf Try.prog 25 0) (FE l m c d (0 : Int)) (SE l m) ∧
  (sameU l m = true → K (AE.returned (Value.bool true))) ∧ (sameU l m = false → K (AE.returned (Value.bool false))))) := by kernel_rfl
theorem vc_eq_r (l m : List U8) (c d : Nat) (i : Int) (β : Bs) (N : Kt) (ex : Nat → Kt → Prop) : roundJ Try.prog toldU 100 20 β (fun _ => 0) (cnOf 2 fun _ => slE) ex 25 0 2 lvE (FE l m c d i) (SE l m) N =
(  br (decide (i < Int.ofNat (List.length l)))
  (need (decide ((0 : Int) ≤ i))
  (need (Nat.blt (Int.toNat i) (List.length l))
  (need (Nat.ble 0 (0 + Int.toNat i) && Nat.blt (0 + Int.toNat i) (List.length l))
  (need (decide ((0 : Int) ≤ i))
  (need (Nat.blt (Int.toNat i) (List.length m))
  (need (Nat.ble 0 (0 + Int.toNat i) && Nat.blt (0 + Int.toNat i) (List.length m))
  (br
  (U8.v (List.getD l (0 + Int.toNat i) Enc.dflt) !=
  U8.v (List.getD m (0 + Int.toNat i) Enc.dflt))
  (onP N AX.ret (shpEr l m false))
  (onP N AX.normal (shpE l m c d (IntKind.wrap IntKind.i64 (i + (1 : Int))))))))))))
  (onP N (AX.exit 0) (shpE l m c d i))) := by kernel_rfl
end Go.Proofs.Ytdmagcdkklacdaa.Ev

/-! slices.Equal tells whether two rows of bytes are the same. -/
set_option linter.unusedVariables false
set_option linter.unusedSimpArgs false
namespace Go.Proofs.Ytdmagcdkklacdaa.Ev
open Go Go.Proofs Go.RowKit

theorem sameU_iff (l m : List U8) (h : l.length = m.length) : sameU l m = true ↔ ∀ i, i < l.length → (l.getD i Enc.dflt).v = (m.getD i Enc.dflt).v := by
  unfold sameU
  rw [decide_eq_true h, Bool.true_and, List.all_eq_true]
  exact ⟨fun h j hj => of_decide_eq_true (h j (List.mem_range.2 hj)), fun h j hj => decide_eq_true (h j (List.mem_range.1 hj))⟩
theorem u8_ext {a b : U8} (h : a.v = b.v) : a = b := by cases a; cases b; simp at h; subst h; rfl
theorem sameU_eq (l m : List U8) : sameU l m = true ↔ l = m := by
  constructor
  · intro h
    have hl : l.length = m.length := by
      unfold sameU at h
      rw [Bool.and_eq_true] at h
      exact of_decide_eq_true h.1
    have h2 := (sameU_iff l m hl).1 h
    apply List.ext_getElem hl
    intro i h1 h3
    have := h2 i h1
    simp [List.getD, h1, h3] at this
    exact u8_ext this
  · intro h
    subst h
    exact (sameU_iff l l rfl).2 fun _ _ => rfl
theorem sameU_self (l : List U8) : sameU l l = true := (sameU_eq l l).2 rfl
theorem eq_round {l m : List U8} {c d : Nat} {β : Bs} (hβ : β.X.length = 2) (hn : l.length = m.length) (hn6 : l.length ≤ 1000000) (K : Kt) (h1 : sameU l m = true → K (.exit 0) (FE l m c d l.length) (SE l m)) (h2 : sameU l m = false → K .ret (FEr false) (SE l m)) (k : Nat) (hk : k ≤ l.length ∧ ∀ j, j < k → (l.getD j Enc.dflt).v = (m.getD j Enc.dflt).v) :
    J Try.prog β (loopOf Try.prog 25 0) (FE l m c d k) (SE l m) (Nn β (fun k : Nat => k ≤ l.length ∧ ∀ j, j < k → (l.getD j Enc.dflt).v = (m.getD j Enc.dflt).v) (fun k => l.length - k) (fun k => FE l m c d k) (fun _ => SE l m) k K) := by
  refine roundJ_ok (E := 2) (lvs := fun _ => slE) (un := fun _ => 0) (fuel := 100) (n := 20) (ex := fun _ _ => False) follows toldU_ok hβ (lv := lvE) ?_
  rw [vc_eq_r]
  by_cases hkn : k < l.length
  · have c1 : decide ((k : Int) < Int.ofNat l.length) = true := by simpa using hkn
    have c2 : decide ((0 : Int) ≤ (k : Int)) = true := by simp
    have e0 : Int.toNat (k : Int) = k := Int.toNat_natCast k
    have c3 : Nat.blt k l.length = true := by simpa using hkn
    have c4 : Nat.blt k m.length = true := by rw [← hn]; exact c3
    have c5 : Nat.ble 0 k = true := by simp
    have hw : IntKind.wrap .i64 ((k : Int) + 1) = ((k + 1 : Nat) : Int) := w64 (by omega) (by omega)
    simp only [c1, c2, e0, Nat.zero_add, c3, c4, c5, Bool.true_and, br_t, need_t, hw]
    refine br_of (fun q => Nn.ret (Seen.refl _ _ _) (h2 ?_)) (fun q => ?_)
    · cases hq : sameU l m with
      | false => rfl
      | true =>
        have := (sameU_iff l m hn).1 hq k hkn
        rw [this] at q
        simp at q
    · refine Nn.next (I := fun k : Nat => k ≤ l.length ∧ ∀ j, j < k → (l.getD j Enc.dflt).v = (m.getD j Enc.dflt).v) (m := fun k => l.length - k) (F := fun k : Nat => FE l m c d k) (S := fun _ => SE l m) (p := k) (k + 1) ⟨hkn, fun j hj => ?_⟩ (by omega) (Seen.refl _ _ _)
      by_cases hjk : j < k
      · exact hk.2 j hjk
      · have : j = k := by omega
        subst this
        simpa using q
  · have c1 : decide ((k : Int) < Int.ofNat l.length) = false := by simpa using hkn
    have hkn' : k = l.length := by omega
    simp only [c1, br_f]
    subst hkn'
    exact Nn.exit (Seen.refl _ _ _) (h1 ((sameU_iff l m hn).2 hk.2))
theorem equal_told : ToldW Try.prog 25 (ok2 U8 U8 fun _ _ _ _ => true) (ans2 U8 U8 fun l _ m _ => bAns (sameU l m)) := by
  refine told2 follows fun l c m d hl hc hm hd _ => ⟨toldU, 100, 20, fun _ => 0, fun _ => slE, exE l m c d, toldU_ok, fun β hβ => ?_⟩
  show lawE _ _ _ _ _ _ (cnOf 2 fun _ => slE) _ _ _ _ _
  have hK : ∀ b, sameU l m = b → ansE (bAns (sameU l m)) (.returned (.bool b)) st0 := fun b hb => by subst hb; exact bAns_ok _ _
  rw [bAns_any, vc_eq l m c d β fun r => ansE (bAns (sameU l m)) r st0]
  refine br_of (fun h => ?_) (fun h => ⟨?_, fun h1 => hK true h1, fun h1 => hK false h1⟩)
  · have : ¬ l.length = m.length := by simp at h; omega
    exact hK false (by simp only [sameU]; rw [decide_eq_false this, Bool.false_and])
  · have hn : l.length = m.length := by simp at h; omega
    exact loop_rule (fun k : Nat => k ≤ l.length ∧ ∀ j, j < k → (l.getD j Enc.dflt).v = (m.getD j Enc.dflt).v) (fun k => FE l m c d k) (fun _ => SE l m) (fun k => l.length - k) (fun k hk K hK => eq_round hβ hn hl K hK.1 hK.2 k hk) 0 ⟨Nat.zero_le _, fun j hj => by omega⟩
def toldE : Told := toldU.tree 25 (ok2 U8 U8 fun _ _ _ _ => true) (ans2 U8 U8 fun l _ m _ => bAns (sameU l m))
theorem toldE_ok : ToldS Try.prog toldE := Told.tree_ok toldU_ok equal_told
end Go.Proofs.Ytdmagcdkklacdaa.Ev

/-! Bytes as strings, parts of rows; frames as lists. -/
set_option linter.unusedVariables false
set_option linter.unusedSimpArgs false
namespace Go.Proofs.Ytdmagcdkklacdaa.Ev
open Go Go.Proofs Go.RowKit

theorem mid_get {α : Type} (l : List α) {k n i : Nat} (h : k + n ≤ l.length) (hi : i < n) (d : α) : ((l.drop k).take n)[i]? = some (l.getD (k + i) d) := by
  rw [List.getElem?_take, if_pos hi, List.getElem?_drop]
  simp [List.getD, show k + i < l.length by omega]
theorem decL_mid {α : Type} [Enc α] (l : List α) {k n : Nat} (h : k + n ≤ l.length) : decL n (fun i => encL l (k + i)) = (l.drop k).take n := by
  apply List.ext_getElem?
  intro i
  unfold decL
  rw [List.getElem?_map]
  rcases Nat.lt_or_ge i n with hi | hi
  · rw [List.getElem?_range hi, mid_get l h hi Enc.dflt]
    simp only [Option.map_some]
    have : Enc.dec (encL l (k + i)) = l.getD (k + i) Enc.dflt := Enc.back _
    rw [this]
  · rw [List.getElem?_eq_none (by simpa using hi), List.getElem?_eq_none (by simp; omega)]; rfl
theorem mid_len {α : Type} (l : List α) {k n : Nat} (h : k + n ≤ l.length) : ((l.drop k).take n).length = n := by simp; omega
theorem mid_all {l : List U8} (hl : l.all (okA U8) = true) (k n : Nat) : ((l.drop k).take n).all (okA U8) = true := by
  rw [List.all_eq_true] at hl ⊢
  exact fun x hx => hl x (List.mem_of_mem_drop (List.mem_of_mem_take hx))
theorem listU_mid (l : List U8) {k n : Nat} (c : Nat) (h : k + n ≤ l.length) : listT U8 (Td.fr 1 n c fun i => encL l (k + i)) = (l.drop k).take n := decL_mid l h
theorem okT_mid {l : List U8} (hl : l.all (okA U8) = true) {k n c : Nat} (h : k + n ≤ l.length) (hn : n ≤ 1000000) (hc : c ≤ 1) : okT U8 (Td.fr 1 n c fun i => encL l (k + i)) = true := by
  simp only [okT, Bool.or_eq_true, Bool.and_eq_true]
  refine .inl ⟨⟨⟨Nat.beq_refl _, okL_of fun i hi => ?_⟩, Nat.ble_eq_true_of_le hc⟩, Nat.ble_eq_true_of_le hn⟩
  exact (okU_iff _).2 (all_getU hl (by omega))
def strU (l : List U8) : ByteArray := ⟨(l.map fun b => UInt8.ofNat b.v.toNat).toArray⟩
theorem strOf_mid (l : List U8) {k n : Nat} (h : k + n ≤ l.length) : strOf n (fun j => encL l (k + j)) = strU ((l.drop k).take n) := by
  unfold strOf strU
  congr 2
  apply List.ext_getElem?
  intro i
  rw [List.getElem?_map, List.getElem?_map]
  rcases Nat.lt_or_ge i n with hi | hi
  · rw [List.getElem?_range hi, mid_get l h hi Enc.dflt]; rfl
  · rw [List.getElem?_eq_none (by simpa using hi), List.getElem?_eq_none (by simp; omega)]; rfl
theorem strOf_all (l : List U8) : strOf l.length (encL l) = strU l := by
  have := strOf_mid l (k := 0) (n := l.length) (by omega)
  simp only [Nat.zero_add, List.drop_zero, List.take_length] at this
  exact this
theorem strU_inj {l m : List U8} (hl : l.all (okA U8) = true) (hm : m.all (okA U8) = true) : strU l = strU m ↔ l = m := by
  constructor
  · intro h
    unfold strU at h
    have h1 : (l.map fun b => UInt8.ofNat b.v.toNat) = m.map fun b => UInt8.ofNat b.v.toNat := by
      have := congrArg ByteArray.data h
      simpa using this
    have hlen : l.length = m.length := by
      have := congrArg List.length h1
      simpa using this
    apply List.ext_getElem hlen
    intro i h2 h3
    have h4 := congrArg (fun q => q[i]?) h1
    simp only [List.getElem?_map, List.getElem?_eq_getElem h2, List.getElem?_eq_getElem h3, Option.map_some, Option.some.injEq] at h4
    have a1 := all_getU hl h2
    have a2 := all_getU hm h3
    simp only [List.getD, List.getElem?_eq_getElem h2, List.getElem?_eq_getElem h3, Option.getD_some] at a1 a2
    have h5 := congrArg UInt8.toNat h4
    simp only [UInt8.toNat_ofNat'] at h5
    exact u8_ext (by omega)
  · intro h; rw [h]
theorem allB_mid (l : List U8) (n k : Nat) : allB n (fun j => encL l (k + j)) = true := by
  unfold allB
  rw [List.all_eq_true]
  exact fun _ _ => rfl
theorem allB_all (l : List U8) (n : Nat) : allB n (encL l) = true := by
  unfold allB
  rw [List.all_eq_true]
  exact fun _ _ => rfl
/-! ### frames -/
def byU (n : Nat) : U8 := ⟨((n % 256 : Nat) : Int)⟩
theorem byU_ok (n : Nat) : okA U8 (byU n) = true := (okU_iff _).2 ⟨by simp [byU]; omega, by simp [byU]; omega⟩
def num2 (n : Nat) : List U8 := [byU (n / 256), byU n]
def num4 (n : Nat) : List U8 := [byU (n / 16777216), byU (n / 65536), byU (n / 256), byU n]
theorem num2_ok (n : Nat) : (num2 n).all (okA U8) = true := by simp [num2, byU_ok]
theorem num4_ok (n : Nat) : (num4 n).all (okA U8) = true := by simp [num4, byU_ok]
def headU (l : List U8) : List U8 := num2 l.length ++ l
def sumU (l : List U8) : Nat := refSum (natsU l)
def frameU (l : List U8) : List U8 := headU l ++ num4 (sumU (headU l))
theorem headU_len (l : List U8) : (headU l).length = 2 + l.length := by simp [headU, num2]; omega
theorem frameU_len (l : List U8) : (frameU l).length = l.length + 6 := by simp [frameU, headU_len, num4]; omega
theorem headU_ok {l : List U8} (h : l.all (okA U8) = true) : (headU l).all (okA U8) = true := by
  unfold headU; rw [List.all_append, h, num2_ok]; rfl
theorem frameU_ok {l : List U8} (h : l.all (okA U8) = true) : (frameU l).all (okA U8) = true := by
  unfold frameU; rw [List.all_append, headU_ok h, num4_ok]; rfl
theorem wrap8 (n : Nat) : IntKind.wrap .u8 (n : Int) = ((n % 256 : Nat) : Int) := by
  unfold IntKind.wrap
  simp [IntKind.signed, IntKind.bits]
theorem wrap32 {n : Nat} (h : n < 4294967296) : IntKind.wrap .u32 (n : Int) = n := by
  unfold IntKind.wrap
  simp [IntKind.signed, IntKind.bits]
  omega
theorem wrap64u {n : Nat} (h : n < 18446744073709551616) : IntKind.wrap .u64 (n : Int) = n := by
  unfold IntKind.wrap
  simp [IntKind.signed, IntKind.bits]
  omega
theorem fdivN (n k : Nat) : Int.fdiv (n : Int) (k : Int) = ((n / k : Nat) : Int) := (Int.ofNat_fdiv n k).symm
theorem by_fdiv (n k : Nat) : IntKind.wrap .u8 (Int.fdiv (n : Int) (k : Int)) = (byU (n / k)).v := by
  rw [fdivN, wrap8]; rfl
theorem refSum_lt (l : List Nat) (hb : ∀ i, i < l.length → l.getD i 0 < 256) : refSum l < 4294967296 := by
  have := refFold_lt l hb l.length (Nat.le_refl _)
  rw [List.take_length] at this
  unfold refSum
  exact Nat.xor_lt_two_pow (n := 32) (by omega) this
theorem sumU_lt {l : List U8} (h : l.all (okA U8) = true) : sumU l < 4294967296 := refSum_lt _ fun i hi => by
  rw [natsU_len] at hi
  rw [natsU_get hi]
  have := all_getU h hi
  omega
end Go.Proofs.Ytdmagcdkklacdaa.Ev

/-! Rows of bytes, however they came about, as lists. -/
set_option linter.unusedVariables false
set_option linter.unusedSimpArgs false
namespace Go.Proofs.Ytdmagcdkklacdaa.Ev
open Go Go.Proofs Go.RowKit

def isU (t : Td) : Prop := ∃ v : Int, t = .sc (.int .u8 v)
theorem mrgU {t u : Td} (ht : isU t) (hu : isU u) : mrgT true t u = t ∧ mrgT false t u = u ∧ ∀ b, isU (mrgT b t u) := by
  obtain ⟨v, rfl⟩ := ht
  obtain ⟨v', rfl⟩ := hu
  exact ⟨rfl, rfl, fun b => ⟨cond b v v', rfl⟩⟩
structure RowU (e : Nat → Nat → Td) (n : Nat) (L : List U8) : Prop where
  len : n = L.length
  at_ : ∀ i, i < n → e i 0 = encL L i 0
  u : ∀ i, isU (e i 0)
theorem RowU.enc (L : List U8) : RowU (encL L) L.length L := ⟨rfl, fun _ _ => rfl, fun i => ⟨_, rfl⟩⟩
theorem RowU.zero (n : Nat) : RowU (fun _ k => nthT [.sc (.int .u8 0)] k) n (List.replicate n ⟨0⟩) := ⟨by simp, fun i hi => by simp [encL, List.getD, hi]; rfl, fun i => ⟨0, rfl⟩⟩
theorem RowU.sel2 (v0 v1 : Int) : RowU (fun i k => selT 1 (1 + 1) [.sc (.int .u8 v0), .sc (.int .u8 v1)] i k) (1 + 1) [⟨v0⟩, ⟨v1⟩] := ⟨rfl, fun i hi => match i, hi with
  | 0, _ => rfl
  | 1, _ => rfl, fun i => ⟨_, rfl⟩⟩
theorem RowU.sel4 (v0 v1 v2 v3 : Int) : RowU (fun i k => selT 1 (1 + 1 + 1 + 1) [.sc (.int .u8 v0), .sc (.int .u8 v1), .sc (.int .u8 v2), .sc (.int .u8 v3)] i k) (1 + 1 + 1 + 1) [⟨v0⟩, ⟨v1⟩, ⟨v2⟩, ⟨v3⟩] := ⟨rfl, fun i hi => match i, hi with
  | 0, _ => rfl
  | 1, _ => rfl
  | 2, _ => rfl
  | 3, _ => rfl, fun i => ⟨_, rfl⟩⟩
theorem RowU.app {e1 e2 : Nat → Nat → Td} {n1 n2 : Nat} {L1 L2 : List U8} (h1 : RowU e1 n1 L1) (h2 : RowU e2 n2 L2) : RowU (fun i k => mrgT (Nat.blt i n1) (e1 i k) (e2 (i - n1) k)) (n1 + n2) (L1 ++ L2) := by
  refine ⟨by rw [h1.len, h2.len, List.length_append], fun i hi => ?_, fun i => (mrgU (h1.u i) (h2.u _)).2.2 _⟩
  have hu := mrgU (h1.u i) (h2.u (i - n1))
  by_cases hil : i < n1
  · have hb : Nat.blt i n1 = true := by simpa using hil
    show mrgT (Nat.blt i n1) _ _ = _
    rw [hb, hu.1, h1.at_ i hil, encL_app_lt _ _ (by rw [← h1.len]; exact hil)]
  · show mrgT (Nat.blt i n1) _ _ = _
    rw [blt_false hil, hu.2.1, h2.at_ _ (by omega), encL_app_ge _ _ (by rw [← h1.len]; omega), ← h1.len]
theorem RowU.sub {e : Nat → Nat → Td} {n k m : Nat} {L : List U8} (h : RowU e n L) (hk : k + m ≤ n) : RowU (fun i => e (k + i)) m ((L.drop k).take m) := by
  have hl := h.len
  refine ⟨by simp; omega, fun i hi => ?_, fun i => h.u _⟩
  show e (k + i) 0 = _
  rw [h.at_ _ (by omega)]
  show Enc.enc (L.getD (k + i) Enc.dflt) 0 = Enc.enc (((L.drop k).take m).getD i Enc.dflt) 0
  have := mid_get L (k := k) (n := m) (i := i) (by omega) hi Enc.dflt
  simp only [List.getD] at this ⊢
  rw [this]; rfl
theorem RowU.put {e : Nat → Nat → Td} {n i0 : Nat} {v : Int} {L : List U8} (h : RowU e n L) (hi : i0 < n) : RowU (putT i0 0 [.sc (.int .u8 v)] e) n (L.set i0 ⟨v⟩) := by
  have hl := h.len
  refine ⟨by simp [hl], fun i hi' => ?_, fun i => (mrgU ⟨v, rfl⟩ (h.u i)).2.2 _⟩
  have hu := mrgU (t := .sc (.int .u8 v)) ⟨v, rfl⟩ (h.u i)
  show mrgT (Nat.beq i i0) (.sc (.int .u8 v)) (e i 0) = Enc.enc ((L.set i0 ⟨v⟩).getD i Enc.dflt) 0
  by_cases hii : i = i0
  · subst hii
    rw [Nat.beq_refl, hu.1]
    have : (L.set i ⟨v⟩).getD i Enc.dflt = ⟨v⟩ := by simp [List.getD, show i < L.length by omega]
    rw [this]; rfl
  · rw [beq_false hii, hu.2.1, h.at_ i hi']
    have : (L.set i0 ⟨v⟩).getD i Enc.dflt = L.getD i Enc.dflt := by simp [List.getD, List.getElem?_set_ne (Ne.symm hii)]
    rw [this]; rfl
theorem RowU.to {e : Nat → Nat → Td} {n m : Nat} {L M : List U8} (h : RowU e n L) (hn : m = n) (hL : L = M) : RowU e m M := by subst hn hL; exact h
theorem RowU.list {e : Nat → Nat → Td} {n c : Nat} {L : List U8} (h : RowU e n L) : listT U8 (Td.fr 1 n c e) = L := by
  have hl := h.len
  subst hl
  show decL L.length e = L
  rw [decL_congr (e' := encL L) fun i hi => by show u8D (e i) = u8D (encL L i); unfold u8D; rw [h.at_ i hi]]
  exact decL_encL L
theorem RowU.okT {e : Nat → Nat → Td} {n c : Nat} {L : List U8} (h : RowU e n L) (hok : L.all (okA U8) = true) (hn : n ≤ 1000000) (hc : c ≤ 1) : Ev.okT U8 (Td.fr 1 n c e) = true := by
  have hl := h.len
  subst hl
  simp only [Ev.okT, Bool.or_eq_true, Bool.and_eq_true]
  refine .inl ⟨⟨⟨Nat.beq_refl _, ?_⟩, Nat.ble_eq_true_of_le hc⟩, Nat.ble_eq_true_of_le hn⟩
  rw [okL_congr (e' := encL L) fun i hi => by show u8Ok (e i) = u8Ok (encL L i); unfold u8Ok; rw [h.at_ i hi]]
  exact okL_encL hok
theorem RowU.ok1 {e : Nat → Nat → Td} {n c : Nat} {L : List U8} (h : RowU e n L) (hok : L.all (okA U8) = true) (hn : n ≤ 1000000) (hc : c ≤ 1) : Ev.ok1 U8 (fun l _ => l.all (okA U8)) [Ta.cell (Td.fr 1 n c e)] = true := by
  show (Ev.okT U8 _ && (listT U8 _).all (okA U8)) = true
  rw [h.okT hok hn hc, h.list, hok]; rfl
theorem RowU.obj {e : Nat → Nat → Td} {n : Nat} {L : List U8} (h : RowU e n L) {k : Rk} (ρ : Rho) (s : Spot) (w : World) (ho : ObjR ρ (.row k 1 0 n e) s w) : ObjR ρ (rowO k L) s w := by
  have hl := h.len
  subst hl
  refine ho.row_TR rfl fun i _ hi j hj F y ht => ?_
  have hj : j < 1 := hj
  have : j = 0 := by omega
  subst this
  rw [h.at_ i hi] at ht
  exact ht
theorem RowU.str {e : Nat → Nat → Td} {n : Nat} {L : List U8} (h : RowU e n L) : strOf n e = strU L := by
  have hl := h.len
  subst hl
  rw [← strOf_all]
  unfold strOf
  congr 2
  exact List.map_congr_left fun i hi => by rw [h.at_ i (List.mem_range.1 hi)]
theorem RowU.allB {e : Nat → Nat → Td} {n m : Nat} {L : List U8} (h : RowU e n L) : Ev.allB m e = true := by
  unfold Ev.allB
  rw [List.all_eq_true]
  intro i _
  obtain ⟨v, hv⟩ := h.u i
  rw [hv]; rfl
/-- an answer that is a row of bytes of one's own -/
theorem RowU.leaf {e : Nat → Nat → Td} {n k : Nat} {L : List U8} {l : List (Option AObj)} (h : RowU e n L) (hl : l[k]? = some (some (.row .mine 1 0 n e))) : objsR l (atL l.length k (rowO .mine L)) := outAt hl rfl h.obj
end Go.Proofs.Ytdmagcdkklacdaa.Ev


/-! What has to hold: printed by the evaluator. -/
set_option linter.unusedVariables false
set_option maxRecDepth 1000000
namespace Go.Proofs.Ytdmagcdkklacdaa.Ev
open Go Go.Proofs
theorem vc_putr (l : List U8) (c : Nat) (β : Bs) (K : AE → List (Option AObj) → Prop) : lawE Try.prog toldE 100 20 β (fun _ => 8) (cnOf 1 fun _ => []) (fun _ _ => False) 13 [.slice (some ⟨0, 0, some 0⟩) l.length c] (mkS [some (rowO .look l)]) (outK K) =
(  br (decide (Int.ofNat (List.length l) > (200 : Int)))
  (K (AE.returned (Value.tuple (Array.mk [Value.slice none 0 0, Value.bool false])))
  [some (AObj.row Rk.look 1 0 (List.length l) (encL l))])
  (need (true && Nat.ble (0 + List.length l) (List.length l))
  (need (Nat.ble (2 + List.length l) 1000000)
  (need (true && Nat.ble (0 + (2 + List.length l)) (2 + List.length l))
  (need
  (ok1 U8 (fun l x => List.all l (okA U8))
  [Ta.cell
  (Td.fr 1 (2 + List.length l) 1 fun i k =>
  mrgT (Nat.blt (0 + i) 2)
  (putT 0 0
  [Td.sc
  (Value.int IntKind.u8
  (IntKind.wrap IntKind.u8
  (Int.tmod
  (IntKind.wrap IntKind.u64
  (Int.tdiv (IntKind.wrap IntKind.u64 (Int.ofNat (List.length l))) (256 : Int)))
  (256 : Int))))]
  (putT 1 0
  [Td.sc
  (Value.int IntKind.u8
  (IntKind.wrap IntKind.u8
  (Int.tmod (IntKind.wrap IntKind.u64 (Int.ofNat (List.length l))) (256 : Int))))]
  fun x => nthT [Td.sc (Value.int IntKind.u8 (0 : Int))])
  (0 + (0 + (0 + i))) k)
  (encL l (0 + (0 + i - 2)) k))])
  (need (Nat.ble (2 + List.length l + 4) 1000000)
  (need (true && Nat.ble (0 + (2 + List.length l)) (2 + List.length l))
  (K
  (AE.returned
  (Value.tuple
  (Array.mk
  [Value.slice (some (Addr.mk 6 0 (some 0)))
  (2 + List.length l + 4) 1,
  Value.bool true])))
  [some (AObj.row Rk.look 1 0 (List.length l) (encL l)),
  some
  (AObj.row Rk.mine 1 0 2
  (putT 0 0
  [Td.sc
  (Value.int IntKind.u8
  (IntKind.wrap IntKind.u8
  (Int.tmod
  (IntKind.wrap IntKind.u64
  (Int.tdiv (IntKind.wrap IntKind.u64 (Int.ofNat (List.length l))) (256 : Int)))
  (256 : Int))))]
  (putT 1 0
  [Td.sc
  (Value.int IntKind.u8
  (IntKind.wrap IntKind.u8
  (Int.tmod (IntKind.wrap IntKind.u64 (Int.ofNat (List.length l))) (256 : Int))))]
  fun x => nthT [Td.sc (Value.int IntKind.u8 (0 : Int))]))),
  none, none, none,
  some
  (AObj.row Rk.mine 1 0 4
  (putT 0 0
  [Td.sc
  (Value.int IntKind.u8
  (IntKind.wrap IntKind.u8
  (Int.tmod
  (IntKind.wrap IntKind.u64
  (Int.tdiv
  (IntKind.wrap IntKind.u64
  (Int.tdiv
  (IntKind.wrap IntKind.u64
  (Int.tdiv
  (IntKind.wrap IntKind.u64
  (Int.ofNat
  (refSum
  (natsU
  (listT U8
  (Td.fr 1 (2 + List.length l) 1
  fun i k =>
  mrgT (Nat.blt (0 + i) 2)
  (putT 0 0
  [Td.sc
  (Value.int IntKind.u8
  (IntKind.wrap IntKind.u8
  (Int.tmod
  (IntKind.wrap IntKind.u64
  (Int.tdiv
  (IntKind.wrap IntKind.u64
  (Int.ofNat (List.length l)))
  (256 : Int)))
  (256 : Int))))]
  (putT 1 0
  [Td.sc
  (Value.int IntKind.u8
  (IntKind.wrap IntKind.u8
  (Int.tmod
  (IntKind.wrap IntKind.u64
  (Int.ofNat (List.length l)))
  (256 : Int))))]
  fun x => nthT [Td.sc (Value.int IntKind.u8 (0 : Int))])
  (0 + (0 + (0 + i))) k)
  (encL l (0 + (0 + i - 2)) k)))))))
  (256 : Int)))
  (256 : Int)))
  (256 : Int)))
  (256 : Int))))]
  (putT 1 0
  [Td.sc
  (Value.int IntKind.u8
  (IntKind.wrap IntKind.u8
  (Int.tmod
  (IntKind.wrap IntKind.u64
  (Int.tdiv
  (IntKind.wrap IntKind.u64
  (Int.tdiv
  (IntKind.wrap IntKind.u64
  (Int.ofNat
  (refSum
  (natsU
  (listT U8
  (Td.fr 1 (2 + List.length l) 1 fun i k =>
  mrgT (Nat.blt (0 + i) 2)
  (putT 0 0
  [Td.sc
  (Value.int IntKind.u8
  (IntKind.wrap IntKind.u8
  (Int.tmod
  (IntKind.wrap IntKind.u64
  (Int.tdiv
  (IntKind.wrap IntKind.u64
  (Int.ofNat (List.length l)))
  (256 : Int)))
  (256 : Int))))]
  (putT 1 0
  [Td.sc
  (Value.int IntKind.u8
  (IntKind.wrap IntKind.u8
  (Int.tmod
  (IntKind.wrap IntKind.u64
  (Int.ofNat (List.length l)))
  (256 : Int))))]
  fun x => nthT [Td.sc (Value.int IntKind.u8 (0 : Int))])
  (0 + (0 + (0 + i))) k)
  (encL l (0 + (0 + i - 2)) k)))))))
  (256 : Int)))
  (256 : Int)))
  (256 : Int))))]
  (putT 2 0
  [Td.sc
  (Value.int IntKind.u8
  (IntKind.wrap IntKind.u8
  (Int.tmod
  (IntKind.wrap IntKind.u64
  (Int.tdiv
  (IntKind.wrap IntKind.u64
  (Int.ofNat
  (refSum
  (natsU
  (listT U8
  (Td.fr 1 (2 + List.length l) 1 fun i k =>
  mrgT (Nat.blt (0 + i) 2)
  (putT 0 0
  [Td.sc
  (Value.int IntKind.u8
  (IntKind.wrap IntKind.u8
  (Int.tmod
  (IntKind.wrap IntKind.u64
  (Int.tdiv
  (IntKind.wrap IntKind.u64
  (Int.ofNat (List.length l)))
  (256 : Int)))
  (256 : Int))))]
  (putT 1 0
  [Td.sc
  (Value.int IntKind.u8
  (IntKind.wrap IntKind.u8
  (Int.tmod
  (IntKind.wrap IntKind.u64
  (Int.ofNat (List.length l)))
  (256 : Int))))]
  fun x => nthT [Td.sc (Value.int IntKind.u8 (0 : Int))])
  (0 + (0 + (0 + i))) k)
  (encL l (0 + (0 + i - 2)) k)))))))
  (256 : Int)))
  (256 : Int))))]
  (putT 3 0
  [Td.sc
  (Value.int IntKind.u8
  (IntKind.wrap IntKind.u8
  (Int.tmod
  (IntKind.wrap IntKind.u64
  (Int.ofNat
  (refSum
  (natsU
  (listT U8
  (Td.fr 1 (2 + List.length l) 1 fun i k =>
  mrgT (Nat.blt (0 + i) 2)
  (putT 0 0
  [Td.sc
  (Value.int IntKind.u8
  (IntKind.wrap IntKind.u8
  (Int.tmod
  (IntKind.wrap IntKind.u64
  (Int.tdiv
  (IntKind.wrap IntKind.u64
  (Int.ofNat (List.length l)))
  (256 : Int)))
  (256 : Int))))]
  (putT 1 0
  [Td.sc
  (Value.int IntKind.u8
  (IntKind.wrap IntKind.u8
  (Int.tmod
  (IntKind.wrap IntKind.u64
  (Int.ofNat (List.length l)))
  (256 : Int))))]
  fun x => nthT [Td.sc (Value.int IntKind.u8 (0 : Int))])
  (0 + (0 + (0 + i))) k)
  (encL l (0 + (0 + i - 2)) k)))))))
  (256 : Int))))]
  fun x => nthT [Td.sc (Value.int IntKind.u8 (0 : Int))]))))),
  some
  (AObj.row Rk.mine 1 0 (2 + List.length l + 4) fun j k =>
  mrgT (Nat.blt j (2 + List.length l))
  (mrgT (Nat.blt (0 + j) 2)
  (putT 0 0
  [Td.sc
  (Value.int IntKind.u8
  (IntKind.wrap IntKind.u8
  (Int.tmod
  (IntKind.wrap IntKind.u64
  (Int.tdiv (IntKind.wrap IntKind.u64 (Int.ofNat (List.length l))) (256 : Int)))
  (256 : Int))))]
  (putT 1 0
  [Td.sc
  (Value.int IntKind.u8
  (IntKind.wrap IntKind.u8
  (Int.tmod (IntKind.wrap IntKind.u64 (Int.ofNat (List.length l))) (256 : Int))))]
  fun x => nthT [Td.sc (Value.int IntKind.u8 (0 : Int))])
  (0 + (0 + (0 + j))) k)
  (encL l (0 + (0 + j - 2)) k))
  (putT 0 0
  [Td.sc
  (Value.int IntKind.u8
  (IntKind.wrap IntKind.u8
  (Int.tmod
  (IntKind.wrap IntKind.u64
  (Int.tdiv
  (IntKind.wrap IntKind.u64
  (Int.tdiv
  (IntKind.wrap IntKind.u64
  (Int.tdiv
  (IntKind.wrap IntKind.u64
  (Int.ofNat
  (refSum
  (natsU
  (listT U8
  (Td.fr 1 (2 + List.length l) 1
  fun i k =>
  mrgT (Nat.blt (0 + i) 2)
  (putT 0 0
  [Td.sc
  (Value.int IntKind.u8
  (IntKind.wrap IntKind.u8
  (Int.tmod
  (IntKind.wrap IntKind.u64
  (Int.tdiv
  (IntKind.wrap IntKind.u64
  (Int.ofNat (List.length l)))
  (256 : Int)))
  (256 : Int))))]
  (putT 1 0
  [Td.sc
  (Value.int IntKind.u8
  (IntKind.wrap IntKind.u8
  (Int.tmod
  (IntKind.wrap IntKind.u64
  (Int.ofNat (List.length l)))
  (256 : Int))))]
  fun x =>
  nthT [Td.sc (Value.int IntKind.u8 (0 : Int))])
  (0 + (0 + (0 + i))) k)
  (encL l (0 + (0 + i - 2)) k)))))))
  (256 : Int)))
  (256 : Int)))
  (256 : Int)))
  (256 : Int))))]
  (putT 1 0
  [Td.sc
  (Value.int IntKind.u8
  (IntKind.wrap IntKind.u8
  (Int.tmod
  (IntKind.wrap IntKind.u64
  (Int.tdiv
  (IntKind.wrap IntKind.u64
  (Int.tdiv
  (IntKind.wrap IntKind.u64
  (Int.ofNat
  (refSum
  (natsU
  (listT U8
  (Td.fr 1 (2 + List.length l) 1
  fun i k =>
  mrgT (Nat.blt (0 + i) 2)
  (putT 0 0
  [Td.sc
  (Value.int IntKind.u8
  (IntKind.wrap IntKind.u8
  (Int.tmod
  (IntKind.wrap IntKind.u64
  (Int.tdiv
  (IntKind.wrap IntKind.u64
  (Int.ofNat (List.length l)))
  (256 : Int)))
  (256 : Int))))]
  (putT 1 0
  [Td.sc
  (Value.int IntKind.u8
  (IntKind.wrap IntKind.u8
  (Int.tmod
  (IntKind.wrap IntKind.u64
  (Int.ofNat (List.length l)))
  (256 : Int))))]
  fun x => nthT [Td.sc (Value.int IntKind.u8 (0 : Int))])
  (0 + (0 + (0 + i))) k)
  (encL l (0 + (0 + i - 2)) k)))))))
  (256 : Int)))
  (256 : Int)))
  (256 : Int))))]
  (putT 2 0
  [Td.sc
  (Value.int IntKind.u8
  (IntKind.wrap IntKind.u8
  (Int.tmod
  (IntKind.wrap IntKind.u64
  (Int.tdiv
  (IntKind.wrap IntKind.u64
  (Int.ofNat
  (refSum
  (natsU
  (listT U8
  (Td.fr 1 (2 + List.length l) 1 fun i k =>
  mrgT (Nat.blt (0 + i) 2)
  (putT 0 0
  [Td.sc
  (Value.int IntKind.u8
  (IntKind.wrap IntKind.u8
  (Int.tmod
  (IntKind.wrap IntKind.u64
  (Int.tdiv
  (IntKind.wrap IntKind.u64
  (Int.ofNat (List.length l)))
  (256 : Int)))
  (256 : Int))))]
  (putT 1 0
  [Td.sc
  (Value.int IntKind.u8
  (IntKind.wrap IntKind.u8
  (Int.tmod
  (IntKind.wrap IntKind.u64
  (Int.ofNat (List.length l)))
  (256 : Int))))]
  fun x => nthT [Td.sc (Value.int IntKind.u8 (0 : Int))])
  (0 + (0 + (0 + i))) k)
  (encL l (0 + (0 + i - 2)) k)))))))
  (256 : Int)))
  (256 : Int))))]
  (putT 3 0
  [Td.sc
  (Value.int IntKind.u8
  (IntKind.wrap IntKind.u8
  (Int.tmod
  (IntKind.wrap IntKind.u64
  (Int.ofNat
  (refSum
  (natsU
  (listT U8
  (Td.fr 1 (2 + List.length l) 1 fun i k =>
  mrgT (Nat.blt (0 + i) 2)
  (putT 0 0
  [Td.sc
  (Value.int IntKind.u8
  (IntKind.wrap IntKind.u8
  (Int.tmod
  (IntKind.wrap IntKind.u64
  (Int.tdiv
  (IntKind.wrap IntKind.u64
  (Int.ofNat (List.length l)))
  (256 : Int)))
  (256 : Int))))]
  (putT 1 0
  [Td.sc
  (Value.int IntKind.u8
  (IntKind.wrap IntKind.u8
  (Int.tmod
  (IntKind.wrap IntKind.u64
  (Int.ofNat (List.length l)))
  (256 : Int))))]
  fun x => nthT [Td.sc (Value.int IntKind.u8 (0 : Int))])
  (0 + (0 + (0 + i))) k)
  (encL l (0 + (0 + i - 2)) k)))))))
  (256 : Int))))]
  fun x => nthT [Td.sc (Value.int IntKind.u8 (0 : Int))])))
  (0 + (j - (2 + List.length l))) k))])))))))) := by kernel_rfl
end Go.Proofs.Ytdmagcdkklacdaa.Ev

/-! fram.Put, ref16.PutFrame: told to the evaluator. -/
set_option linter.unusedVariables false
set_option linter.unusedSimpArgs false
namespace Go.Proofs.Ytdmagcdkklacdaa.Ev
open Go Go.Proofs Go.RowKit

def putL (l : List U8) : List U8 := if 200 < l.length then [] else frameU l
def putA (l : List U8) (_ : Nat) : Ans := .rets [.cell (ownL (putL l) 1), .cell (.sc (.bool (decide (l.length ≤ 200))))]
theorem md (n : Nat) : IntKind.wrap .u8 (Int.tmod (n : Int) 256) = (byU n).v := by
  have : Int.tmod (n : Int) 256 = ((n % 256 : Nat) : Int) := (Int.ofNat_tmod n 256).symm
  rw [this, wrap8, Nat.mod_mod]; rfl
theorem dv {n : Nat} (h : n < 4294967296) : IntKind.wrap .u64 (Int.tdiv (n : Int) 256) = ((n / 256 : Nat) : Int) := by
  have : Int.tdiv (n : Int) 256 = ((n / 256 : Nat) : Int) := (Int.ofNat_tdiv n 256).symm
  rw [this]; exact wrap64u (by omega)
theorem dv3 (n : Nat) : n / 256 / 256 / 256 = n / 16777216 := by omega
theorem dv2 (n : Nat) : n / 256 / 256 = n / 65536 := by omega
theorem fd1 (n : Nat) : IntKind.wrap .u8 (Int.fdiv (n : Int) 1) = (byU n).v := by
  have := by_fdiv n 1
  rw [Nat.div_one] at this; exact this
theorem fd256 (n : Nat) : IntKind.wrap .u8 (Int.fdiv (n : Int) 256) = (byU (n / 256)).v := by_fdiv n 256
theorem fd65 (n : Nat) : IntKind.wrap .u8 (Int.fdiv (n : Int) 65536) = (byU (n / 65536)).v := by_fdiv n 65536
theorem fd16 (n : Nat) : IntKind.wrap .u8 (Int.fdiv (n : Int) 16777216) = (byU (n / 16777216)).v := by_fdiv n 16777216
theorem put_leaf {l : List U8} {m : List (Option AObj)} {k n c0 : Nat} {e : Nat → Nat → Td} (h2 : l.length ≤ 200) (hR : RowU e n (frameU l)) (hk : m[k]? = some (some (.row .mine 1 0 n e))) :
    ∃ m2, objsR m m2 ∧ ansE (putA l 0) (.returned (.tuple ⟨[.slice (some ⟨k, 0, some 0⟩) n c0, .bool true]⟩)) (mkS m2) := by
  have hkl := (List.getElem?_eq_some_iff.1 hk).1
  have hn := hR.len
  rw [frameU_len] at hn
  refine ⟨_, hR.leaf hk, ⟨_, [k], rfl, ⟨[k], [], rfl, ?_, [], [], rfl, ⟨rfl, ?_, rfl⟩, rfl⟩, by simp⟩⟩
  · rw [show putL l = frameU l by unfold putL; rw [if_neg (by omega)]]
    exact own_at hkl hR.len (fun h => by omega)
  · rw [decide_eq_true h2]
theorem put_none {l : List U8} {m : List (Option AObj)} (h2 : ¬ l.length ≤ 200) :
    ∃ m2, objsR m m2 ∧ ansE (putA l 0) (.returned (.tuple ⟨[.slice none 0 0, .bool false]⟩)) (mkS m2) := by
  refine ⟨_, objsR.refl _, ⟨_, [], rfl, ⟨[], [], rfl, ?_, [], [], rfl, ⟨rfl, ?_, rfl⟩, rfl⟩, by simp⟩⟩
  · rw [show putL l = [] by unfold putL; rw [if_pos (by omega)]]
    exact .inl ⟨rfl, rfl, rfl, rfl⟩
  · rw [decide_eq_false h2]
theorem told1' {g : FuncId} {p : List U8 → Nat → Bool} {A : List U8 → Nat → Ans}
    (h : ∀ (l : List U8) (c : Nat), l.length ≤ 1000000 → c ≤ 1 → p l c = true → ∃ (C : Told) (fuel n : Nat) (un : Nat → Nat) (lvs : Nat → List Nat) (ex : Nat → Kt → Prop), ToldS Try.prog C ∧ ∀ β : Bs, β.X.length = 1 → lawE Try.prog C fuel n β un (cnOf 1 lvs) ex g [.slice (some ⟨0, 0, some 0⟩) l.length c] (mkS [some (rowO .look l)]) (outR (ansE (A l c)))) : ToldW Try.prog g (ok1 U8 p) (ans1 U8 A) := by
  intro ts hok w args' F hF ha
  unfold ok1 at hok
  split at hok
  · rename_i t
    simp only [Bool.and_eq_true] at hok
    obtain ⟨h1, h2⟩ := okT_len hok.1
    obtain ⟨y, m, e, hy, hm'⟩ := ha.uncons
    have := hm'.nil_inv
    subst this
    have ha' : PW (TaR w F) [.cell (tdL (listT U8 t) (nilT t))] args'.toList := by rw [e]; exact PW.cons (okT_TRo hok.1 hy) (PW.nil _)
    exact toldW_out (ts := [.cell (tdL (listT U8 t) (nilT t))]) follows (h _ _ h1 h2 hok.2) w args' F hF ha'
  · cases hok
theorem putr_told : ToldW Try.prog 13 (ok1 U8 fun l _ => l.all (okA U8)) (ans1 U8 putA) := by
  refine told1' fun l c hl hc hok => ⟨toldE, 100, 20, fun _ => 8, fun _ => [], fun _ _ => False, toldE_ok, fun β hβ => ?_⟩
  show lawE _ _ _ _ _ _ _ _ _ _ _ (outK fun r m => ∃ m2, objsR m m2 ∧ ansE (putA l 0) r (mkS m2))
  rw [vc_putr]
  refine br_of (fun q => put_none (by simp at q; omega)) (fun q => ?_)
  have h2 : l.length ≤ 200 := by simp at q; omega
  have e0 : IntKind.wrap .u64 (Int.ofNat l.length) = (l.length : Int) := wrap64u (by omega)
  have e1 := dv (n := l.length) (by omega)
  have hH := (((RowU.zero 2).put (v := (byU l.length).v) (i0 := 1) (by omega)).put (v := (byU (l.length / 256)).v) (i0 := 0) (by omega)).app (RowU.enc l)
  have hH := hH.to (m := 2 + l.length) (M := headU l) rfl rfl
  have hs := sumU_lt (headU_ok hok)
  have hsum : refSum (natsU (headU l)) = sumU (headU l) := rfl
  have l1 := hH.list (c := 1)
  have o1 := hH.ok1 (c := 1) (headU_ok hok) (by omega) (by omega)
  have s0 : IntKind.wrap .u64 (Int.ofNat (sumU (headU l))) = (sumU (headU l) : Int) := wrap64u (by omega)
  have s1 := dv (n := sumU (headU l)) hs
  have s2 := dv (n := sumU (headU l) / 256) (by omega)
  have s3 := dv (n := sumU (headU l) / 256 / 256) (by omega)
  have b1 : Nat.ble (2 + l.length) 1000000 = true := Nat.ble_eq_true_of_le (by omega)
  have b2 : Nat.ble (2 + l.length + 4) 1000000 = true := Nat.ble_eq_true_of_le (by omega)
  simp only [Nat.zero_add, bleS, Bool.true_and, need_t, e0, e1, md, o1, l1, hsum, s0, s1, s2, s3, b1, b2]
  refine put_leaf (k := 6) h2 ?_ rfl
  have hF := hH.app (((((RowU.zero 4).put (v := (byU (sumU (headU l))).v) (i0 := 3) (by omega)).put (v := (byU (sumU (headU l) / 256)).v) (i0 := 2) (by omega)).put (v := (byU (sumU (headU l) / 256 / 256)).v) (i0 := 1) (by omega)).put (v := (byU (sumU (headU l) / 256 / 256 / 256)).v) (i0 := 0) (by omega))
  exact hF.to rfl (by rw [dv3, dv2]; rfl)
-- NOPUT{
def toldP : Told := toldE.tree 13 (ok1 U8 fun l _ => l.all (okA U8)) (ans1 U8 putA)
theorem toldP_ok : ToldS Try.prog toldP := Told.tree_ok toldE_ok putr_told
-- }NOPUT
end Go.Proofs.Ytdmagcdkklacdaa.Ev

/-! What has to hold: printed by the evaluator. -/
set_option linter.unusedVariables false
set_option maxRecDepth 1000000
namespace Go.Proofs.Ytdmagcdkklacdaa.Ev
open Go Go.Proofs
theorem vc_take (l : List U8) (c : Nat) (β : Bs) (K : AE → List (Option AObj) → Prop) : lawE Try.prog toldP 100 20 β (fun _ => 8) (cnOf 1 fun _ => []) (fun _ _ => False) 22 [.slice (some ⟨0, 0, some 0⟩) l.length c] (mkS [some (rowO .look l)]) (outK K) =
(  br (decide (Int.ofNat (List.length l) < (2 : Int)))
  (K
  (AE.returned
  (Value.tuple
  (Array.mk
  [Value.slice none 0 0, Value.int IntKind.i64 (0 : Int), Value.int IntKind.i64 (11 : Int)])))
  [some (AObj.row Rk.look 1 0 (List.length l) (encL l)),
  some (AObj.cells [Value.slice none 0 0] true 0),
  some (AObj.cells [Value.int IntKind.i64 (0 : Int)] true 0),
  some (AObj.cells [Value.int IntKind.i64 (11 : Int)] true 0)])
  (need (Nat.ble 2 (List.length l))
  (need (true && Nat.blt 0 (List.length l))
  (need (true && Nat.blt 1 (List.length l))
  (br
  (decide
  (IntKind.wrap IntKind.i64
  (Int.ofNat
  (BitVec.toNat
  (BitVec.ofInt 64
  (IntKind.wrap IntKind.i64
  (IntKind.wrap IntKind.i64 (U8.v (List.getD l 0 Enc.dflt)) * (256 : Int))) |||
  BitVec.ofInt 64 (IntKind.wrap IntKind.i64 (U8.v (List.getD l 1 Enc.dflt)))))) >
  (200 : Int)))
  (K
  (AE.returned
  (Value.tuple
  (Array.mk
  [Value.slice none 0 0, Value.int IntKind.i64 (0 : Int),
  Value.int IntKind.i64 (2 : Int)])))
  [some (AObj.row Rk.look 1 0 (List.length l) (encL l)),
  some (AObj.cells [Value.slice none 0 0] true 0),
  some (AObj.cells [Value.int IntKind.i64 (0 : Int)] true 0),
  some (AObj.cells [Value.int IntKind.i64 (2 : Int)] true 0)])
  (br
  (decide
  (Int.ofNat (List.length l) <
  IntKind.wrap IntKind.i64
  (IntKind.wrap IntKind.i64
  ((2 : Int) +
  IntKind.wrap IntKind.i64
  (Int.ofNat
  (BitVec.toNat
  (BitVec.ofInt 64
  (IntKind.wrap IntKind.i64
  (IntKind.wrap IntKind.i64 (U8.v (List.getD l 0 Enc.dflt)) *
  (256 : Int))) |||
  BitVec.ofInt 64
  (IntKind.wrap IntKind.i64 (U8.v (List.getD l 1 Enc.dflt))))))) +
  (4 : Int))))
  (K
  (AE.returned
  (Value.tuple
  (Array.mk
  [Value.slice none 0 0, Value.int IntKind.i64 (0 : Int),
  Value.int IntKind.i64 (11 : Int)])))
  [some (AObj.row Rk.look 1 0 (List.length l) (encL l)),
  some (AObj.cells [Value.slice none 0 0] true 0),
  some (AObj.cells [Value.int IntKind.i64 (0 : Int)] true 0),
  some (AObj.cells [Value.int IntKind.i64 (11 : Int)] true 0)])
  (need
  (decide
  ((0 : Int) ≤
  IntKind.wrap IntKind.i64
  (IntKind.wrap IntKind.i64
  ((2 : Int) +
  IntKind.wrap IntKind.i64
  (Int.ofNat
  (BitVec.toNat
  (BitVec.ofInt 64
  (IntKind.wrap IntKind.i64
  (IntKind.wrap IntKind.i64 (U8.v (List.getD l 0 Enc.dflt)) *
  (256 : Int))) |||
  BitVec.ofInt 64
  (IntKind.wrap IntKind.i64 (U8.v (List.getD l 1 Enc.dflt))))))) +
  (4 : Int))))
  (need
  (Nat.ble
  (Int.toNat
  (IntKind.wrap IntKind.i64
  (IntKind.wrap IntKind.i64
  ((2 : Int) +
  IntKind.wrap IntKind.i64
  (Int.ofNat
  (BitVec.toNat
  (BitVec.ofInt 64
  (IntKind.wrap IntKind.i64
  (IntKind.wrap IntKind.i64 (U8.v (List.getD l 0 Enc.dflt)) *
  (256 : Int))) |||
  BitVec.ofInt 64
  (IntKind.wrap IntKind.i64 (U8.v (List.getD l 1 Enc.dflt))))))) +
  (4 : Int))))
  (List.length l))
  (need
  (decide
  ((0 : Int) ≤
  IntKind.wrap IntKind.i64
  (IntKind.wrap IntKind.i64
  (IntKind.wrap IntKind.i64
  ((2 : Int) +
  IntKind.wrap IntKind.i64
  (Int.ofNat
  (BitVec.toNat
  (BitVec.ofInt 64
  (IntKind.wrap IntKind.i64
  (IntKind.wrap IntKind.i64 (U8.v (List.getD l 0 Enc.dflt)) *
  (256 : Int))) |||
  BitVec.ofInt 64
  (IntKind.wrap IntKind.i64 (U8.v (List.getD l 1 Enc.dflt))))))) +
  (4 : Int)) -
  (4 : Int))))
  (need
  (Nat.ble
  (Int.toNat
  (IntKind.wrap IntKind.i64
  (IntKind.wrap IntKind.i64
  (IntKind.wrap IntKind.i64
  ((2 : Int) +
  IntKind.wrap IntKind.i64
  (Int.ofNat
  (BitVec.toNat
  (BitVec.ofInt 64
  (IntKind.wrap IntKind.i64
  (IntKind.wrap IntKind.i64 (U8.v (List.getD l 0 Enc.dflt)) *
  (256 : Int))) |||
  BitVec.ofInt 64
  (IntKind.wrap IntKind.i64 (U8.v (List.getD l 1 Enc.dflt))))))) +
  (4 : Int)) -
  (4 : Int))))
  (Int.toNat
  (IntKind.wrap IntKind.i64
  (IntKind.wrap IntKind.i64
  ((2 : Int) +
  IntKind.wrap IntKind.i64
  (Int.ofNat
  (BitVec.toNat
  (BitVec.ofInt 64
  (IntKind.wrap IntKind.i64
  (IntKind.wrap IntKind.i64 (U8.v (List.getD l 0 Enc.dflt)) *
  (256 : Int))) |||
  BitVec.ofInt 64
  (IntKind.wrap IntKind.i64 (U8.v (List.getD l 1 Enc.dflt))))))) +
  (4 : Int))) -
  0))
  (need
  (true &&
  Nat.ble
  (0 +
  (Int.toNat
  (IntKind.wrap IntKind.i64
  (IntKind.wrap IntKind.i64
  (IntKind.wrap IntKind.i64
  ((2 : Int) +
  IntKind.wrap IntKind.i64
  (Int.ofNat
  (BitVec.toNat
  (BitVec.ofInt 64
  (IntKind.wrap IntKind.i64
  (IntKind.wrap IntKind.i64
  (U8.v (List.getD l 0 Enc.dflt)) *
  (256 : Int))) |||
  BitVec.ofInt 64
  (IntKind.wrap IntKind.i64
  (U8.v (List.getD l 1 Enc.dflt))))))) +
  (4 : Int)) -
  (4 : Int))) -
  0))
  (List.length l))
  (need
  (ok1 U8 (fun l x => List.all l (okA U8))
  [Ta.cell
  (Td.fr 1
  (Int.toNat
  (IntKind.wrap IntKind.i64
  (IntKind.wrap IntKind.i64
  (IntKind.wrap IntKind.i64
  ((2 : Int) +
  IntKind.wrap IntKind.i64
  (Int.ofNat
  (BitVec.toNat
  (BitVec.ofInt 64
  (IntKind.wrap IntKind.i64
  (IntKind.wrap IntKind.i64
  (U8.v (List.getD l 0 Enc.dflt)) *
  (256 : Int))) |||
  BitVec.ofInt 64
  (IntKind.wrap IntKind.i64
  (U8.v (List.getD l 1 Enc.dflt))))))) +
  (4 : Int)) -
  (4 : Int))) -
  0)
  (bif
  Nat.beq
  (Int.toNat
  (IntKind.wrap IntKind.i64
  (IntKind.wrap IntKind.i64
  ((2 : Int) +
  IntKind.wrap IntKind.i64
  (Int.ofNat
  (BitVec.toNat
  (BitVec.ofInt 64
  (IntKind.wrap IntKind.i64
  (IntKind.wrap IntKind.i64
  (U8.v (List.getD l 0 Enc.dflt)) *
  (256 : Int))) |||
  BitVec.ofInt 64
  (IntKind.wrap IntKind.i64
  (U8.v (List.getD l 1 Enc.dflt))))))) +
  (4 : Int))) -
  0)
  0 then
  bif Nat.beq (List.length l) 0 then c else 0
  else 0)
  fun i => encL l (0 + i))])
  (need
  (decide
  ((0 : Int) ≤
  IntKind.wrap IntKind.i64
  (IntKind.wrap IntKind.i64
  (IntKind.wrap IntKind.i64
  ((2 : Int) +
  IntKind.wrap IntKind.i64
  (Int.ofNat
  (BitVec.toNat
  (BitVec.ofInt 64
  (IntKind.wrap IntKind.i64
  (IntKind.wrap IntKind.i64
  (U8.v (List.getD l 0 Enc.dflt)) *
  (256 : Int))) |||
  BitVec.ofInt 64
  (IntKind.wrap IntKind.i64
  (U8.v (List.getD l 1 Enc.dflt))))))) +
  (4 : Int)) -
  (4 : Int))))
  (need
  (Nat.ble
  (Int.toNat
  (IntKind.wrap IntKind.i64
  (IntKind.wrap IntKind.i64
  (IntKind.wrap IntKind.i64
  ((2 : Int) +
  IntKind.wrap IntKind.i64
  (Int.ofNat
  (BitVec.toNat
  (BitVec.ofInt 64
  (IntKind.wrap IntKind.i64
  (IntKind.wrap IntKind.i64
  (U8.v (List.getD l 0 Enc.dflt)) *
  (256 : Int))) |||
  BitVec.ofInt 64
  (IntKind.wrap IntKind.i64
  (U8.v (List.getD l 1 Enc.dflt))))))) +
  (4 : Int)) -
  (4 : Int))))
  (Int.toNat
  (IntKind.wrap IntKind.i64
  (IntKind.wrap IntKind.i64
  ((2 : Int) +
  IntKind.wrap IntKind.i64
  (Int.ofNat
  (BitVec.toNat
  (BitVec.ofInt 64
  (IntKind.wrap IntKind.i64
  (IntKind.wrap IntKind.i64
  (U8.v (List.getD l 0 Enc.dflt)) *
  (256 : Int))) |||
  BitVec.ofInt 64
  (IntKind.wrap IntKind.i64
  (U8.v (List.getD l 1 Enc.dflt))))))) +
  (4 : Int))) -
  0))
  (need
  (Nat.ble 0
  (0 +
  Int.toNat
  (IntKind.wrap IntKind.i64
  (IntKind.wrap IntKind.i64
  (IntKind.wrap IntKind.i64
  ((2 : Int) +
  IntKind.wrap IntKind.i64
  (Int.ofNat
  (BitVec.toNat
  (BitVec.ofInt 64
  (IntKind.wrap IntKind.i64
  (IntKind.wrap IntKind.i64
  (U8.v (List.getD l 0 Enc.dflt)) *
  (256 : Int))) |||
  BitVec.ofInt 64
  (IntKind.wrap IntKind.i64
  (U8.v (List.getD l 1 Enc.dflt))))))) +
  (4 : Int)) -
  (4 : Int)))) &&
  Nat.ble
  (0 +
  Int.toNat
  (IntKind.wrap IntKind.i64
  (IntKind.wrap IntKind.i64
  (IntKind.wrap IntKind.i64
  ((2 : Int) +
  IntKind.wrap IntKind.i64
  (Int.ofNat
  (BitVec.toNat
  (BitVec.ofInt 64
  (IntKind.wrap IntKind.i64
  (IntKind.wrap IntKind.i64
  (U8.v (List.getD l 0 Enc.dflt)) *
  (256 : Int))) |||
  BitVec.ofInt 64
  (IntKind.wrap IntKind.i64
  (U8.v (List.getD l 1 Enc.dflt))))))) +
  (4 : Int)) -
  (4 : Int))) +
  (Int.toNat
  (IntKind.wrap IntKind.i64
  (IntKind.wrap IntKind.i64
  ((2 : Int) +
  IntKind.wrap IntKind.i64
  (Int.ofNat
  (BitVec.toNat
  (BitVec.ofInt 64
  (IntKind.wrap IntKind.i64
  (IntKind.wrap IntKind.i64
  (U8.v (List.getD l 0 Enc.dflt)) *
  (256 : Int))) |||
  BitVec.ofInt 64
  (IntKind.wrap IntKind.i64
  (U8.v (List.getD l 1 Enc.dflt))))))) +
  (4 : Int))) -
  0 -
  Int.toNat
  (IntKind.wrap IntKind.i64
  (IntKind.wrap IntKind.i64
  (IntKind.wrap IntKind.i64
  ((2 : Int) +
  IntKind.wrap IntKind.i64
  (Int.ofNat
  (BitVec.toNat
  (BitVec.ofInt 64
  (IntKind.wrap IntKind.i64
  (IntKind.wrap IntKind.i64
  (U8.v (List.getD l 0 Enc.dflt)) *
  (256 : Int))) |||
  BitVec.ofInt 64
  (IntKind.wrap IntKind.i64
  (U8.v (List.getD l 1 Enc.dflt))))))) +
  (4 : Int)) -
  (4 : Int)))))
  (List.length l))
  (need
  (ok2 U8 U8 (fun x x_1 x_2 x_3 => true)
  [Ta.cell
  (Td.fr 1 (1 + 1 + 1 + 1) 0
  (selT 1 (1 + 1 + 1 + 1)
  [Td.sc
  (Value.int IntKind.u8
  (IntKind.wrap IntKind.u8
  (Int.fdiv
  (Int.ofNat
  (refSum
  (natsU
  (listT U8
  (Td.fr 1
  (Int.toNat
  (IntKind.wrap IntKind.i64
  (IntKind.wrap IntKind.i64
  (IntKind.wrap IntKind.i64
  ((2 : Int) +
  IntKind.wrap IntKind.i64
  (Int.ofNat
  (BitVec.toNat
  (BitVec.ofInt 64
  (IntKind.wrap IntKind.i64
  (IntKind.wrap IntKind.i64
  (U8.v
  (List.getD l 0
  Enc.dflt)) *
  (256 : Int))) |||
  BitVec.ofInt 64
  (IntKind.wrap IntKind.i64
  (U8.v
  (List.getD l 1
  Enc.dflt))))))) +
  (4 : Int)) -
  (4 : Int))) -
  0)
  (bif
  Nat.beq
  (Int.toNat
  (IntKind.wrap IntKind.i64
  (IntKind.wrap IntKind.i64
  ((2 : Int) +
  IntKind.wrap IntKind.i64
  (Int.ofNat
  (BitVec.toNat
  (BitVec.ofInt 64
  (IntKind.wrap IntKind.i64
  (IntKind.wrap IntKind.i64
  (U8.v
  (List.getD l 0
  Enc.dflt)) *
  (256 : Int))) |||
  BitVec.ofInt 64
  (IntKind.wrap IntKind.i64
  (U8.v
  (List.getD l 1
  Enc.dflt))))))) +
  (4 : Int))) -
  0)
  0 then
  bif Nat.beq (List.length l) 0 then c
  else 0
  else 0)
  fun i => encL l (0 + i))))))
  (16777216 : Int)))),
  Td.sc
  (Value.int IntKind.u8
  (IntKind.wrap IntKind.u8
  (Int.fdiv
  (Int.ofNat
  (refSum
  (natsU
  (listT U8
  (Td.fr 1
  (Int.toNat
  (IntKind.wrap IntKind.i64
  (IntKind.wrap IntKind.i64
  (IntKind.wrap IntKind.i64
  ((2 : Int) +
  IntKind.wrap IntKind.i64
  (Int.ofNat
  (BitVec.toNat
  (BitVec.ofInt 64
  (IntKind.wrap IntKind.i64
  (IntKind.wrap IntKind.i64
  (U8.v
  (List.getD l 0
  Enc.dflt)) *
  (256 : Int))) |||
  BitVec.ofInt 64
  (IntKind.wrap IntKind.i64
  (U8.v
  (List.getD l 1
  Enc.dflt))))))) +
  (4 : Int)) -
  (4 : Int))) -
  0)
  (bif
  Nat.beq
  (Int.toNat
  (IntKind.wrap IntKind.i64
  (IntKind.wrap IntKind.i64
  ((2 : Int) +
  IntKind.wrap IntKind.i64
  (Int.ofNat
  (BitVec.toNat
  (BitVec.ofInt 64
  (IntKind.wrap IntKind.i64
  (IntKind.wrap IntKind.i64
  (U8.v
  (List.getD l 0
  Enc.dflt)) *
  (256 : Int))) |||
  BitVec.ofInt 64
  (IntKind.wrap IntKind.i64
  (U8.v
  (List.getD l 1
  Enc.dflt))))))) +
  (4 : Int))) -
  0)
  0 then
  bif Nat.beq (List.length l) 0 then c
  else 0
  else 0)
  fun i => encL l (0 + i))))))
  (65536 : Int)))),
  Td.sc
  (Value.int IntKind.u8
  (IntKind.wrap IntKind.u8
  (Int.fdiv
  (Int.ofNat
  (refSum
  (natsU
  (listT U8
  (Td.fr 1
  (Int.toNat
  (IntKind.wrap IntKind.i64
  (IntKind.wrap IntKind.i64
  (IntKind.wrap IntKind.i64
  ((2 : Int) +
  IntKind.wrap IntKind.i64
  (Int.ofNat
  (BitVec.toNat
  (BitVec.ofInt 64
  (IntKind.wrap IntKind.i64
  (IntKind.wrap IntKind.i64
  (U8.v
  (List.getD l 0
  Enc.dflt)) *
  (256 : Int))) |||
  BitVec.ofInt 64
  (IntKind.wrap IntKind.i64
  (U8.v
  (List.getD l 1
  Enc.dflt))))))) +
  (4 : Int)) -
  (4 : Int))) -
  0)
  (bif
  Nat.beq
  (Int.toNat
  (IntKind.wrap IntKind.i64
  (IntKind.wrap IntKind.i64
  ((2 : Int) +
  IntKind.wrap IntKind.i64
  (Int.ofNat
  (BitVec.toNat
  (BitVec.ofInt 64
  (IntKind.wrap IntKind.i64
  (IntKind.wrap IntKind.i64
  (U8.v
  (List.getD l 0
  Enc.dflt)) *
  (256 : Int))) |||
  BitVec.ofInt 64
  (IntKind.wrap IntKind.i64
  (U8.v
  (List.getD l 1
  Enc.dflt))))))) +
  (4 : Int))) -
  0)
  0 then
  bif Nat.beq (List.length l) 0 then c
  else 0
  else 0)
  fun i => encL l (0 + i))))))
  (256 : Int)))),
  Td.sc
  (Value.int IntKind.u8
  (IntKind.wrap IntKind.u8
  (Int.fdiv
  (Int.ofNat
  (refSum
  (natsU
  (listT U8
  (Td.fr 1
  (Int.toNat
  (IntKind.wrap IntKind.i64
  (IntKind.wrap IntKind.i64
  (IntKind.wrap IntKind.i64
  ((2 : Int) +
  IntKind.wrap IntKind.i64
  (Int.ofNat
  (BitVec.toNat
  (BitVec.ofInt 64
  (IntKind.wrap IntKind.i64
  (IntKind.wrap IntKind.i64
  (U8.v
  (List.getD l 0
  Enc.dflt)) *
  (256 : Int))) |||
  BitVec.ofInt 64
  (IntKind.wrap IntKind.i64
  (U8.v
  (List.getD l 1
  Enc.dflt))))))) +
  (4 : Int)) -
  (4 : Int))) -
  0)
  (bif
  Nat.beq
  (Int.toNat
  (IntKind.wrap IntKind.i64
  (IntKind.wrap IntKind.i64
  ((2 : Int) +
  IntKind.wrap IntKind.i64
  (Int.ofNat
  (BitVec.toNat
  (BitVec.ofInt 64
  (IntKind.wrap IntKind.i64
  (IntKind.wrap IntKind.i64
  (U8.v
  (List.getD l 0
  Enc.dflt)) *
  (256 : Int))) |||
  BitVec.ofInt 64
  (IntKind.wrap IntKind.i64
  (U8.v
  (List.getD l 1
  Enc.dflt))))))) +
  (4 : Int))) -
  0)
  0 then
  bif Nat.beq (List.length l) 0 then c
  else 0
  else 0)
  fun i => encL l (0 + i))))))
  (1 : Int))))])),
  Ta.cell
  (Td.fr 1
  (Int.toNat
  (IntKind.wrap IntKind.i64
  (IntKind.wrap IntKind.i64
  ((2 : Int) +
  IntKind.wrap IntKind.i64
  (Int.ofNat
  (BitVec.toNat
  (BitVec.ofInt 64
  (IntKind.wrap IntKind.i64
  (IntKind.wrap IntKind.i64
  (U8.v (List.getD l 0 Enc.dflt)) *
  (256 : Int))) |||
  BitVec.ofInt 64
  (IntKind.wrap IntKind.i64
  (U8.v (List.getD l 1 Enc.dflt))))))) +
  (4 : Int))) -
  0 -
  Int.toNat
  (IntKind.wrap IntKind.i64
  (IntKind.wrap IntKind.i64
  (IntKind.wrap IntKind.i64
  ((2 : Int) +
  IntKind.wrap IntKind.i64
  (Int.ofNat
  (BitVec.toNat
  (BitVec.ofInt 64
  (IntKind.wrap IntKind.i64
  (IntKind.wrap IntKind.i64
  (U8.v (List.getD l 0 Enc.dflt)) *
  (256 : Int))) |||
  BitVec.ofInt 64
  (IntKind.wrap IntKind.i64
  (U8.v (List.getD l 1 Enc.dflt))))))) +
  (4 : Int)) -
  (4 : Int))))
  (bif
  Nat.beq
  (Int.toNat
  (IntKind.wrap IntKind.i64
  (IntKind.wrap IntKind.i64
  ((2 : Int) +
  IntKind.wrap IntKind.i64
  (Int.ofNat
  (BitVec.toNat
  (BitVec.ofInt 64
  (IntKind.wrap IntKind.i64
  (IntKind.wrap IntKind.i64
  (U8.v (List.getD l 0 Enc.dflt)) *
  (256 : Int))) |||
  BitVec.ofInt 64
  (IntKind.wrap IntKind.i64
  (U8.v (List.getD l 1 Enc.dflt))))))) +
  (4 : Int))) -
  0)
  0 then
  bif Nat.beq (List.length l) 0 then c else 0
  else 0)
  fun i =>
  encL l
  (0 +
  Int.toNat
  (IntKind.wrap IntKind.i64
  (IntKind.wrap IntKind.i64
  (IntKind.wrap IntKind.i64
  ((2 : Int) +
  IntKind.wrap IntKind.i64
  (Int.ofNat
  (BitVec.toNat
  (BitVec.ofInt 64
  (IntKind.wrap IntKind.i64
  (IntKind.wrap IntKind.i64
  (U8.v (List.getD l 0 Enc.dflt)) *
  (256 : Int))) |||
  BitVec.ofInt 64
  (IntKind.wrap IntKind.i64
  (U8.v (List.getD l 1 Enc.dflt))))))) +
  (4 : Int)) -
  (4 : Int))) +
  i))])
  (br
  (!sameU
  [U8.mk
  (bif true then
  IntKind.wrap IntKind.u8
  (Int.fdiv
  (Int.ofNat
  (refSum
  (natsU
  (listT U8
  (Td.fr 1
  (Int.toNat
  (IntKind.wrap IntKind.i64
  (IntKind.wrap IntKind.i64
  (IntKind.wrap IntKind.i64
  ((2 : Int) +
  IntKind.wrap IntKind.i64
  (Int.ofNat
  (BitVec.toNat
  (BitVec.ofInt 64
  (IntKind.wrap IntKind.i64
  (IntKind.wrap IntKind.i64
  (U8.v
  (List.getD l 0
  Enc.dflt)) *
  (256 : Int))) |||
  BitVec.ofInt 64
  (IntKind.wrap IntKind.i64
  (U8.v
  (List.getD l 1
  Enc.dflt))))))) +
  (4 : Int)) -
  (4 : Int))) -
  0)
  (bif
  Nat.beq
  (Int.toNat
  (IntKind.wrap IntKind.i64
  (IntKind.wrap IntKind.i64
  ((2 : Int) +
  IntKind.wrap IntKind.i64
  (Int.ofNat
  (BitVec.toNat
  (BitVec.ofInt 64
  (IntKind.wrap IntKind.i64
  (IntKind.wrap IntKind.i64
  (U8.v
  (List.getD l 0
  Enc.dflt)) *
  (256 : Int))) |||
  BitVec.ofInt 64
  (IntKind.wrap IntKind.i64
  (U8.v
  (List.getD l 1
  Enc.dflt))))))) +
  (4 : Int))) -
  0)
  0 then
  bif Nat.beq (List.length l) 0 then c else 0
  else 0)
  fun i => encL l (0 + i))))))
  (16777216 : Int))
  else
  bif true then
  IntKind.wrap IntKind.u8
  (Int.fdiv
  (Int.ofNat
  (refSum
  (natsU
  (listT U8
  (Td.fr 1
  (Int.toNat
  (IntKind.wrap IntKind.i64
  (IntKind.wrap IntKind.i64
  (IntKind.wrap IntKind.i64
  ((2 : Int) +
  IntKind.wrap IntKind.i64
  (Int.ofNat
  (BitVec.toNat
  (BitVec.ofInt 64
  (IntKind.wrap IntKind.i64
  (IntKind.wrap IntKind.i64
  (U8.v
  (List.getD l 0
  Enc.dflt)) *
  (256 : Int))) |||
  BitVec.ofInt 64
  (IntKind.wrap IntKind.i64
  (U8.v
  (List.getD l 1
  Enc.dflt))))))) +
  (4 : Int)) -
  (4 : Int))) -
  0)
  (bif
  Nat.beq
  (Int.toNat
  (IntKind.wrap IntKind.i64
  (IntKind.wrap IntKind.i64
  ((2 : Int) +
  IntKind.wrap IntKind.i64
  (Int.ofNat
  (BitVec.toNat
  (BitVec.ofInt 64
  (IntKind.wrap IntKind.i64
  (IntKind.wrap IntKind.i64
  (U8.v
  (List.getD l 0
  Enc.dflt)) *
  (256 : Int))) |||
  BitVec.ofInt 64
  (IntKind.wrap IntKind.i64
  (U8.v
  (List.getD l 1
  Enc.dflt))))))) +
  (4 : Int))) -
  0)
  0 then
  bif Nat.beq (List.length l) 0 then c
  else 0
  else 0)
  fun i => encL l (0 + i))))))
  (65536 : Int))
  else
  bif true then
  IntKind.wrap IntKind.u8
  (Int.fdiv
  (Int.ofNat
  (refSum
  (natsU
  (listT U8
  (Td.fr 1
  (Int.toNat
  (IntKind.wrap IntKind.i64
  (IntKind.wrap IntKind.i64
  (IntKind.wrap IntKind.i64
  ((2 : Int) +
  IntKind.wrap IntKind.i64
  (Int.ofNat
  (BitVec.toNat
  (BitVec.ofInt 64
  (IntKind.wrap IntKind.i64
  (IntKind.wrap IntKind.i64
  (U8.v
  (List.getD l 0
  Enc.dflt)) *
  (256 : Int))) |||
  BitVec.ofInt 64
  (IntKind.wrap IntKind.i64
  (U8.v
  (List.getD l 1
  Enc.dflt))))))) +
  (4 : Int)) -
  (4 : Int))) -
  0)
  (bif
  Nat.beq
  (Int.toNat
  (IntKind.wrap IntKind.i64
  (IntKind.wrap IntKind.i64
  ((2 : Int) +
  IntKind.wrap IntKind.i64
  (Int.ofNat
  (BitVec.toNat
  (BitVec.ofInt 64
  (IntKind.wrap IntKind.i64
  (IntKind.wrap IntKind.i64
  (U8.v
  (List.getD l 0
  Enc.dflt)) *
  (256 : Int))) |||
  BitVec.ofInt 64
  (IntKind.wrap IntKind.i64
  (U8.v
  (List.getD l 1
  Enc.dflt))))))) +
  (4 : Int))) -
  0)
  0 then
  bif Nat.beq (List.length l) 0 then c
  else 0
  else 0)
  fun i => encL l (0 + i))))))
  (256 : Int))
  else
  IntKind.wrap IntKind.u8
  (Int.fdiv
  (Int.ofNat
  (refSum
  (natsU
  (listT U8
  (Td.fr 1
  (Int.toNat
  (IntKind.wrap IntKind.i64
  (IntKind.wrap IntKind.i64
  (IntKind.wrap IntKind.i64
  ((2 : Int) +
  IntKind.wrap IntKind.i64
  (Int.ofNat
  (BitVec.toNat
  (BitVec.ofInt 64
  (IntKind.wrap IntKind.i64
  (IntKind.wrap IntKind.i64
  (U8.v
  (List.getD l 0
  Enc.dflt)) *
  (256 : Int))) |||
  BitVec.ofInt 64
  (IntKind.wrap IntKind.i64
  (U8.v
  (List.getD l 1
  Enc.dflt))))))) +
  (4 : Int)) -
  (4 : Int))) -
  0)
  (bif
  Nat.beq
  (Int.toNat
  (IntKind.wrap IntKind.i64
  (IntKind.wrap IntKind.i64
  ((2 : Int) +
  IntKind.wrap IntKind.i64
  (Int.ofNat
  (BitVec.toNat
  (BitVec.ofInt 64
  (IntKind.wrap IntKind.i64
  (IntKind.wrap IntKind.i64
  (U8.v
  (List.getD l 0
  Enc.dflt)) *
  (256 : Int))) |||
  BitVec.ofInt 64
  (IntKind.wrap IntKind.i64
  (U8.v
  (List.getD l 1
  Enc.dflt))))))) +
  (4 : Int))) -
  0)
  0 then
  bif Nat.beq (List.length l) 0 then c
  else 0
  else 0)
  fun i => encL l (0 + i))))))
  (1 : Int))),
  U8.mk
  (bif false then
  IntKind.wrap IntKind.u8
  (Int.fdiv
  (Int.ofNat
  (refSum
  (natsU
  (listT U8
  (Td.fr 1
  (Int.toNat
  (IntKind.wrap IntKind.i64
  (IntKind.wrap IntKind.i64
  (IntKind.wrap IntKind.i64
  ((2 : Int) +
  IntKind.wrap IntKind.i64
  (Int.ofNat
  (BitVec.toNat
  (BitVec.ofInt 64
  (IntKind.wrap IntKind.i64
  (IntKind.wrap IntKind.i64
  (U8.v
  (List.getD l 0
  Enc.dflt)) *
  (256 : Int))) |||
  BitVec.ofInt 64
  (IntKind.wrap IntKind.i64
  (U8.v
  (List.getD l 1
  Enc.dflt))))))) +
  (4 : Int)) -
  (4 : Int))) -
  0)
  (bif
  Nat.beq
  (Int.toNat
  (IntKind.wrap IntKind.i64
  (IntKind.wrap IntKind.i64
  ((2 : Int) +
  IntKind.wrap IntKind.i64
  (Int.ofNat
  (BitVec.toNat
  (BitVec.ofInt 64
  (IntKind.wrap IntKind.i64
  (IntKind.wrap IntKind.i64
  (U8.v
  (List.getD l 0
  Enc.dflt)) *
  (256 : Int))) |||
  BitVec.ofInt 64
  (IntKind.wrap IntKind.i64
  (U8.v
  (List.getD l 1
  Enc.dflt))))))) +
  (4 : Int))) -
  0)
  0 then
  bif Nat.beq (List.length l) 0 then c else 0
  else 0)
  fun i => encL l (0 + i))))))
  (16777216 : Int))
  else
  bif true then
  IntKind.wrap IntKind.u8
  (Int.fdiv
  (Int.ofNat
  (refSum
  (natsU
  (listT U8
  (Td.fr 1
  (Int.toNat
  (IntKind.wrap IntKind.i64
  (IntKind.wrap IntKind.i64
  (IntKind.wrap IntKind.i64
  ((2 : Int) +
  IntKind.wrap IntKind.i64
  (Int.ofNat
  (BitVec.toNat
  (BitVec.ofInt 64
  (IntKind.wrap IntKind.i64
  (IntKind.wrap IntKind.i64
  (U8.v
  (List.getD l 0
  Enc.dflt)) *
  (256 : Int))) |||
  BitVec.ofInt 64
  (IntKind.wrap IntKind.i64
  (U8.v
  (List.getD l 1
  Enc.dflt))))))) +
  (4 : Int)) -
  (4 : Int))) -
  0)
  (bif
  Nat.beq
  (Int.toNat
  (IntKind.wrap IntKind.i64
  (IntKind.wrap IntKind.i64
  ((2 : Int) +
  IntKind.wrap IntKind.i64
  (Int.ofNat
  (BitVec.toNat
  (BitVec.ofInt 64
  (IntKind.wrap IntKind.i64
  (IntKind.wrap IntKind.i64
  (U8.v
  (List.getD l 0
  Enc.dflt)) *
  (256 : Int))) |||
  BitVec.ofInt 64
  (IntKind.wrap IntKind.i64
  (U8.v
  (List.getD l 1
  Enc.dflt))))))) +
  (4 : Int))) -
  0)
  0 then
  bif Nat.beq (List.length l) 0 then c
  else 0
  else 0)
  fun i => encL l (0 + i))))))
  (65536 : Int))
  else
  bif true then
  IntKind.wrap IntKind.u8
  (Int.fdiv
  (Int.ofNat
  (refSum
  (natsU
  (listT U8
  (Td.fr 1
  (Int.toNat
  (IntKind.wrap IntKind.i64
  (IntKind.wrap IntKind.i64
  (IntKind.wrap IntKind.i64
  ((2 : Int) +
  IntKind.wrap IntKind.i64
  (Int.ofNat
  (BitVec.toNat
  (BitVec.ofInt 64
  (IntKind.wrap IntKind.i64
  (IntKind.wrap IntKind.i64
  (U8.v
  (List.getD l 0
  Enc.dflt)) *
  (256 : Int))) |||
  BitVec.ofInt 64
  (IntKind.wrap IntKind.i64
  (U8.v
  (List.getD l 1
  Enc.dflt))))))) +
  (4 : Int)) -
  (4 : Int))) -
  0)
  (bif
  Nat.beq
  (Int.toNat
  (IntKind.wrap IntKind.i64
  (IntKind.wrap IntKind.i64
  ((2 : Int) +
  IntKind.wrap IntKind.i64
  (Int.ofNat
  (BitVec.toNat
  (BitVec.ofInt 64
  (IntKind.wrap IntKind.i64
  (IntKind.wrap IntKind.i64
  (U8.v
  (List.getD l 0
  Enc.dflt)) *
  (256 : Int))) |||
  BitVec.ofInt 64
  (IntKind.wrap IntKind.i64
  (U8.v
  (List.getD l 1
  Enc.dflt))))))) +
  (4 : Int))) -
  0)
  0 then
  bif Nat.beq (List.length l) 0 then c
  else 0
  else 0)
  fun i => encL l (0 + i))))))
  (256 : Int))
  else
  IntKind.wrap IntKind.u8
  (Int.fdiv
  (Int.ofNat
  (refSum
  (natsU
  (listT U8
  (Td.fr 1
  (Int.toNat
  (IntKind.wrap IntKind.i64
  (IntKind.wrap IntKind.i64
  (IntKind.wrap IntKind.i64
  ((2 : Int) +
  IntKind.wrap IntKind.i64
  (Int.ofNat
  (BitVec.toNat
  (BitVec.ofInt 64
  (IntKind.wrap IntKind.i64
  (IntKind.wrap IntKind.i64
  (U8.v
  (List.getD l 0
  Enc.dflt)) *
  (256 : Int))) |||
  BitVec.ofInt 64
  (IntKind.wrap IntKind.i64
  (U8.v
  (List.getD l 1
  Enc.dflt))))))) +
  (4 : Int)) -
  (4 : Int))) -
  0)
  (bif
  Nat.beq
  (Int.toNat
  (IntKind.wrap IntKind.i64
  (IntKind.wrap IntKind.i64
  ((2 : Int) +
  IntKind.wrap IntKind.i64
  (Int.ofNat
  (BitVec.toNat
  (BitVec.ofInt 64
  (IntKind.wrap IntKind.i64
  (IntKind.wrap IntKind.i64
  (U8.v
  (List.getD l 0
  Enc.dflt)) *
  (256 : Int))) |||
  BitVec.ofInt 64
  (IntKind.wrap IntKind.i64
  (U8.v
  (List.getD l 1
  Enc.dflt))))))) +
  (4 : Int))) -
  0)
  0 then
  bif Nat.beq (List.length l) 0 then c
  else 0
  else 0)
  fun i => encL l (0 + i))))))
  (1 : Int))),
  U8.mk
  (bif false then
  IntKind.wrap IntKind.u8
  (Int.fdiv
  (Int.ofNat
  (refSum
  (natsU
  (listT U8
  (Td.fr 1
  (Int.toNat
  (IntKind.wrap IntKind.i64
  (IntKind.wrap IntKind.i64
  (IntKind.wrap IntKind.i64
  ((2 : Int) +
  IntKind.wrap IntKind.i64
  (Int.ofNat
  (BitVec.toNat
  (BitVec.ofInt 64
  (IntKind.wrap IntKind.i64
  (IntKind.wrap IntKind.i64
  (U8.v
  (List.getD l 0
  Enc.dflt)) *
  (256 : Int))) |||
  BitVec.ofInt 64
  (IntKind.wrap IntKind.i64
  (U8.v
  (List.getD l 1
  Enc.dflt))))))) +
  (4 : Int)) -
  (4 : Int))) -
  0)
  (bif
  Nat.beq
  (Int.toNat
  (IntKind.wrap IntKind.i64
  (IntKind.wrap IntKind.i64
  ((2 : Int) +
  IntKind.wrap IntKind.i64
  (Int.ofNat
  (BitVec.toNat
  (BitVec.ofInt 64
  (IntKind.wrap IntKind.i64
  (IntKind.wrap IntKind.i64
  (U8.v
  (List.getD l 0
  Enc.dflt)) *
  (256 : Int))) |||
  BitVec.ofInt 64
  (IntKind.wrap IntKind.i64
  (U8.v
  (List.getD l 1
  Enc.dflt))))))) +
  (4 : Int))) -
  0)
  0 then
  bif Nat.beq (List.length l) 0 then c else 0
  else 0)
  fun i => encL l (0 + i))))))
  (16777216 : Int))
  else
  bif false then
  IntKind.wrap IntKind.u8
  (Int.fdiv
  (Int.ofNat
  (refSum
  (natsU
  (listT U8
  (Td.fr 1
  (Int.toNat
  (IntKind.wrap IntKind.i64
  (IntKind.wrap IntKind.i64
  (IntKind.wrap IntKind.i64
  ((2 : Int) +
  IntKind.wrap IntKind.i64
  (Int.ofNat
  (BitVec.toNat
  (BitVec.ofInt 64
  (IntKind.wrap IntKind.i64
  (IntKind.wrap IntKind.i64
  (U8.v
  (List.getD l 0
  Enc.dflt)) *
  (256 : Int))) |||
  BitVec.ofInt 64
  (IntKind.wrap IntKind.i64
  (U8.v
  (List.getD l 1
  Enc.dflt))))))) +
  (4 : Int)) -
  (4 : Int))) -
  0)
  (bif
  Nat.beq
  (Int.toNat
  (IntKind.wrap IntKind.i64
  (IntKind.wrap IntKind.i64
  ((2 : Int) +
  IntKind.wrap IntKind.i64
  (Int.ofNat
  (BitVec.toNat
  (BitVec.ofInt 64
  (IntKind.wrap IntKind.i64
  (IntKind.wrap IntKind.i64
  (U8.v
  (List.getD l 0
  Enc.dflt)) *
  (256 : Int))) |||
  BitVec.ofInt 64
  (IntKind.wrap IntKind.i64
  (U8.v
  (List.getD l 1
  Enc.dflt))))))) +
  (4 : Int))) -
  0)
  0 then
  bif Nat.beq (List.length l) 0 then c
  else 0
  else 0)
  fun i => encL l (0 + i))))))
  (65536 : Int))
  else
  bif true then
  IntKind.wrap IntKind.u8
  (Int.fdiv
  (Int.ofNat
  (refSum
  (natsU
  (listT U8
  (Td.fr 1
  (Int.toNat
  (IntKind.wrap IntKind.i64
  (IntKind.wrap IntKind.i64
  (IntKind.wrap IntKind.i64
  ((2 : Int) +
  IntKind.wrap IntKind.i64
  (Int.ofNat
  (BitVec.toNat
  (BitVec.ofInt 64
  (IntKind.wrap IntKind.i64
  (IntKind.wrap IntKind.i64
  (U8.v
  (List.getD l 0
  Enc.dflt)) *
  (256 : Int))) |||
  BitVec.ofInt 64
  (IntKind.wrap IntKind.i64
  (U8.v
  (List.getD l 1
  Enc.dflt))))))) +
  (4 : Int)) -
  (4 : Int))) -
  0)
  (bif
  Nat.beq
  (Int.toNat
  (IntKind.wrap IntKind.i64
  (IntKind.wrap IntKind.i64
  ((2 : Int) +
  IntKind.wrap IntKind.i64
  (Int.ofNat
  (BitVec.toNat
  (BitVec.ofInt 64
  (IntKind.wrap IntKind.i64
  (IntKind.wrap IntKind.i64
  (U8.v
  (List.getD l 0
  Enc.dflt)) *
  (256 : Int))) |||
  BitVec.ofInt 64
  (IntKind.wrap IntKind.i64
  (U8.v
  (List.getD l 1
  Enc.dflt))))))) +
  (4 : Int))) -
  0)
  0 then
  bif Nat.beq (List.length l) 0 then c
  else 0
  else 0)
  fun i => encL l (0 + i))))))
  (256 : Int))
  else
  IntKind.wrap IntKind.u8
  (Int.fdiv
  (Int.ofNat
  (refSum
  (natsU
  (listT U8
  (Td.fr 1
  (Int.toNat
  (IntKind.wrap IntKind.i64
  (IntKind.wrap IntKind.i64
  (IntKind.wrap IntKind.i64
  ((2 : Int) +
  IntKind.wrap IntKind.i64
  (Int.ofNat
  (BitVec.toNat
  (BitVec.ofInt 64
  (IntKind.wrap IntKind.i64
  (IntKind.wrap IntKind.i64
  (U8.v
  (List.getD l 0
  Enc.dflt)) *
  (256 : Int))) |||
  BitVec.ofInt 64
  (IntKind.wrap IntKind.i64
  (U8.v
  (List.getD l 1
  Enc.dflt))))))) +
  (4 : Int)) -
  (4 : Int))) -
  0)
  (bif
  Nat.beq
  (Int.toNat
  (IntKind.wrap IntKind.i64
  (IntKind.wrap IntKind.i64
  ((2 : Int) +
  IntKind.wrap IntKind.i64
  (Int.ofNat
  (BitVec.toNat
  (BitVec.ofInt 64
  (IntKind.wrap IntKind.i64
  (IntKind.wrap IntKind.i64
  (U8.v
  (List.getD l 0
  Enc.dflt)) *
  (256 : Int))) |||
  BitVec.ofInt 64
  (IntKind.wrap IntKind.i64
  (U8.v
  (List.getD l 1
  Enc.dflt))))))) +
  (4 : Int))) -
  0)
  0 then
  bif Nat.beq (List.length l) 0 then c
  else 0
  else 0)
  fun i => encL l (0 + i))))))
  (1 : Int))),
  U8.mk
  (bif false then
  IntKind.wrap IntKind.u8
  (Int.fdiv
  (Int.ofNat
  (refSum
  (natsU
  (listT U8
  (Td.fr 1
  (Int.toNat
  (IntKind.wrap IntKind.i64
  (IntKind.wrap IntKind.i64
  (IntKind.wrap IntKind.i64
  ((2 : Int) +
  IntKind.wrap IntKind.i64
  (Int.ofNat
  (BitVec.toNat
  (BitVec.ofInt 64
  (IntKind.wrap IntKind.i64
  (IntKind.wrap IntKind.i64
  (U8.v
  (List.getD l 0
  Enc.dflt)) *
  (256 : Int))) |||
  BitVec.ofInt 64
  (IntKind.wrap IntKind.i64
  (U8.v
  (List.getD l 1
  Enc.dflt))))))) +
  (4 : Int)) -
  (4 : Int))) -
  0)
  (bif
  Nat.beq
  (Int.toNat
  (IntKind.wrap IntKind.i64
  (IntKind.wrap IntKind.i64
  ((2 : Int) +
  IntKind.wrap IntKind.i64
  (Int.ofNat
  (BitVec.toNat
  (BitVec.ofInt 64
  (IntKind.wrap IntKind.i64
  (IntKind.wrap IntKind.i64
  (U8.v
  (List.getD l 0
  Enc.dflt)) *
  (256 : Int))) |||
  BitVec.ofInt 64
  (IntKind.wrap IntKind.i64
  (U8.v
  (List.getD l 1
  Enc.dflt))))))) +
  (4 : Int))) -
  0)
  0 then
  bif Nat.beq (List.length l) 0 then c else 0
  else 0)
  fun i => encL l (0 + i))))))
  (16777216 : Int))
  else
  bif false then
  IntKind.wrap IntKind.u8
  (Int.fdiv
  (Int.ofNat
  (refSum
  (natsU
  (listT U8
  (Td.fr 1
  (Int.toNat
  (IntKind.wrap IntKind.i64
  (IntKind.wrap IntKind.i64
  (IntKind.wrap IntKind.i64
  ((2 : Int) +
  IntKind.wrap IntKind.i64
  (Int.ofNat
  (BitVec.toNat
  (BitVec.ofInt 64
  (IntKind.wrap IntKind.i64
  (IntKind.wrap IntKind.i64
  (U8.v
  (List.getD l 0
  Enc.dflt)) *
  (256 : Int))) |||
  BitVec.ofInt 64
  (IntKind.wrap IntKind.i64
  (U8.v
  (List.getD l 1
  Enc.dflt))))))) +
  (4 : Int)) -
  (4 : Int))) -
  0)
  (bif
  Nat.beq
  (Int.toNat
  (IntKind.wrap IntKind.i64
  (IntKind.wrap IntKind.i64
  ((2 : Int) +
  IntKind.wrap IntKind.i64
  (Int.ofNat
  (BitVec.toNat
  (BitVec.ofInt 64
  (IntKind.wrap IntKind.i64
  (IntKind.wrap IntKind.i64
  (U8.v
  (List.getD l 0
  Enc.dflt)) *
  (256 : Int))) |||
  BitVec.ofInt 64
  (IntKind.wrap IntKind.i64
  (U8.v
  (List.getD l 1
  Enc.dflt))))))) +
  (4 : Int))) -
  0)
  0 then
  bif Nat.beq (List.length l) 0 then c
  else 0
  else 0)
  fun i => encL l (0 + i))))))
  (65536 : Int))
  else
  bif false then
  IntKind.wrap IntKind.u8
  (Int.fdiv
  (Int.ofNat
  (refSum
  (natsU
  (listT U8
  (Td.fr 1
  (Int.toNat
  (IntKind.wrap IntKind.i64
  (IntKind.wrap IntKind.i64
  (IntKind.wrap IntKind.i64
  ((2 : Int) +
  IntKind.wrap IntKind.i64
  (Int.ofNat
  (BitVec.toNat
  (BitVec.ofInt 64
  (IntKind.wrap IntKind.i64
  (IntKind.wrap IntKind.i64
  (U8.v
  (List.getD l 0
  Enc.dflt)) *
  (256 : Int))) |||
  BitVec.ofInt 64
  (IntKind.wrap IntKind.i64
  (U8.v
  (List.getD l 1
  Enc.dflt))))))) +
  (4 : Int)) -
  (4 : Int))) -
  0)
  (bif
  Nat.beq
  (Int.toNat
  (IntKind.wrap IntKind.i64
  (IntKind.wrap IntKind.i64
  ((2 : Int) +
  IntKind.wrap IntKind.i64
  (Int.ofNat
  (BitVec.toNat
  (BitVec.ofInt 64
  (IntKind.wrap IntKind.i64
  (IntKind.wrap IntKind.i64
  (U8.v
  (List.getD l 0
  Enc.dflt)) *
  (256 : Int))) |||
  BitVec.ofInt 64
  (IntKind.wrap IntKind.i64
  (U8.v
  (List.getD l 1
  Enc.dflt))))))) +
  (4 : Int))) -
  0)
  0 then
  bif Nat.beq (List.length l) 0 then c
  else 0
  else 0)
  fun i => encL l (0 + i))))))
  (256 : Int))
  else
  IntKind.wrap IntKind.u8
  (Int.fdiv
  (Int.ofNat
  (refSum
  (natsU
  (listT U8
  (Td.fr 1
  (Int.toNat
  (IntKind.wrap IntKind.i64
  (IntKind.wrap IntKind.i64
  (IntKind.wrap IntKind.i64
  ((2 : Int) +
  IntKind.wrap IntKind.i64
  (Int.ofNat
  (BitVec.toNat
  (BitVec.ofInt 64
  (IntKind.wrap IntKind.i64
  (IntKind.wrap IntKind.i64
  (U8.v
  (List.getD l 0
  Enc.dflt)) *
  (256 : Int))) |||
  BitVec.ofInt 64
  (IntKind.wrap IntKind.i64
  (U8.v
  (List.getD l 1
  Enc.dflt))))))) +
  (4 : Int)) -
  (4 : Int))) -
  0)
  (bif
  Nat.beq
  (Int.toNat
  (IntKind.wrap IntKind.i64
  (IntKind.wrap IntKind.i64
  ((2 : Int) +
  IntKind.wrap IntKind.i64
  (Int.ofNat
  (BitVec.toNat
  (BitVec.ofInt 64
  (IntKind.wrap IntKind.i64
  (IntKind.wrap IntKind.i64
  (U8.v
  (List.getD l 0
  Enc.dflt)) *
  (256 : Int))) |||
  BitVec.ofInt 64
  (IntKind.wrap IntKind.i64
  (U8.v
  (List.getD l 1
  Enc.dflt))))))) +
  (4 : Int))) -
  0)
  0 then
  bif Nat.beq (List.length l) 0 then c
  else 0
  else 0)
  fun i => encL l (0 + i))))))
  (1 : Int)))]
  (listT U8
  (Td.fr 1
  (Int.toNat
  (IntKind.wrap IntKind.i64
  (IntKind.wrap IntKind.i64
  ((2 : Int) +
  IntKind.wrap IntKind.i64
  (Int.ofNat
  (BitVec.toNat
  (BitVec.ofInt 64
  (IntKind.wrap IntKind.i64
  (IntKind.wrap IntKind.i64
  (U8.v (List.getD l 0 Enc.dflt)) *
  (256 : Int))) |||
  BitVec.ofInt 64
  (IntKind.wrap IntKind.i64
  (U8.v (List.getD l 1 Enc.dflt))))))) +
  (4 : Int))) -
  0 -
  Int.toNat
  (IntKind.wrap IntKind.i64
  (IntKind.wrap IntKind.i64
  (IntKind.wrap IntKind.i64
  ((2 : Int) +
  IntKind.wrap IntKind.i64
  (Int.ofNat
  (BitVec.toNat
  (BitVec.ofInt 64
  (IntKind.wrap IntKind.i64
  (IntKind.wrap IntKind.i64
  (U8.v (List.getD l 0 Enc.dflt)) *
  (256 : Int))) |||
  BitVec.ofInt 64
  (IntKind.wrap IntKind.i64
  (U8.v (List.getD l 1 Enc.dflt))))))) +
  (4 : Int)) -
  (4 : Int))))
  (bif
  Nat.beq
  (Int.toNat
  (IntKind.wrap IntKind.i64
  (IntKind.wrap IntKind.i64
  ((2 : Int) +
  IntKind.wrap IntKind.i64
  (Int.ofNat
  (BitVec.toNat
  (BitVec.ofInt 64
  (IntKind.wrap IntKind.i64
  (IntKind.wrap IntKind.i64
  (U8.v (List.getD l 0 Enc.dflt)) *
  (256 : Int))) |||
  BitVec.ofInt 64
  (IntKind.wrap IntKind.i64
  (U8.v (List.getD l 1 Enc.dflt))))))) +
  (4 : Int))) -
  0)
  0 then
  bif Nat.beq (List.length l) 0 then c else 0
  else 0)
  fun i =>
  encL l
  (0 +
  Int.toNat
  (IntKind.wrap IntKind.i64
  (IntKind.wrap IntKind.i64
  (IntKind.wrap IntKind.i64
  ((2 : Int) +
  IntKind.wrap IntKind.i64
  (Int.ofNat
  (BitVec.toNat
  (BitVec.ofInt 64
  (IntKind.wrap IntKind.i64
  (IntKind.wrap IntKind.i64
  (U8.v (List.getD l 0 Enc.dflt)) *
  (256 : Int))) |||
  BitVec.ofInt 64
  (IntKind.wrap IntKind.i64
  (U8.v (List.getD l 1 Enc.dflt))))))) +
  (4 : Int)) -
  (4 : Int))) +
  i))))
  (K
  (AE.returned
  (Value.tuple
  (Array.mk
  [Value.slice none 0 0, Value.int IntKind.i64 (0 : Int),
  Value.int IntKind.i64 (2 : Int)])))
  [some (AObj.row Rk.look 1 0 (List.length l) (encL l)),
  some (AObj.cells [Value.slice none 0 0] true 0),
  some (AObj.cells [Value.int IntKind.i64 (0 : Int)] true 0),
  some (AObj.cells [Value.int IntKind.i64 (2 : Int)] true 0), none,
  some
  (AObj.cells
  [Value.int IntKind.u8
  (IntKind.wrap IntKind.u8
  (Int.fdiv
  (Int.ofNat
  (refSum
  (natsU
  (listT U8
  (Td.fr 1
  (Int.toNat
  (IntKind.wrap IntKind.i64
  (IntKind.wrap IntKind.i64
  (IntKind.wrap IntKind.i64
  ((2 : Int) +
  IntKind.wrap IntKind.i64
  (Int.ofNat
  (BitVec.toNat
  (BitVec.ofInt 64
  (IntKind.wrap IntKind.i64
  (IntKind.wrap IntKind.i64
  (U8.v
  (List.getD l 0
  Enc.dflt)) *
  (256 : Int))) |||
  BitVec.ofInt 64
  (IntKind.wrap IntKind.i64
  (U8.v
  (List.getD l 1
  Enc.dflt))))))) +
  (4 : Int)) -
  (4 : Int))) -
  0)
  (bif
  Nat.beq
  (Int.toNat
  (IntKind.wrap IntKind.i64
  (IntKind.wrap IntKind.i64
  ((2 : Int) +
  IntKind.wrap IntKind.i64
  (Int.ofNat
  (BitVec.toNat
  (BitVec.ofInt 64
  (IntKind.wrap IntKind.i64
  (IntKind.wrap IntKind.i64
  (U8.v
  (List.getD l 0
  Enc.dflt)) *
  (256 : Int))) |||
  BitVec.ofInt 64
  (IntKind.wrap IntKind.i64
  (U8.v
  (List.getD l 1
  Enc.dflt))))))) +
  (4 : Int))) -
  0)
  0 then
  bif Nat.beq (List.length l) 0 then c
  else 0
  else 0)
  fun i => encL l (0 + i))))))
  (16777216 : Int)))]
  true 1),
  none,
  some
  (AObj.cells
  [Value.int IntKind.u8
  (IntKind.wrap IntKind.u8
  (Int.fdiv
  (Int.ofNat
  (refSum
  (natsU
  (listT U8
  (Td.fr 1
  (Int.toNat
  (IntKind.wrap IntKind.i64
  (IntKind.wrap IntKind.i64
  (IntKind.wrap IntKind.i64
  ((2 : Int) +
  IntKind.wrap IntKind.i64
  (Int.ofNat
  (BitVec.toNat
  (BitVec.ofInt 64
  (IntKind.wrap IntKind.i64
  (IntKind.wrap IntKind.i64
  (U8.v
  (List.getD l 0
  Enc.dflt)) *
  (256 : Int))) |||
  BitVec.ofInt 64
  (IntKind.wrap IntKind.i64
  (U8.v
  (List.getD l 1
  Enc.dflt))))))) +
  (4 : Int)) -
  (4 : Int))) -
  0)
  (bif
  Nat.beq
  (Int.toNat
  (IntKind.wrap IntKind.i64
  (IntKind.wrap IntKind.i64
  ((2 : Int) +
  IntKind.wrap IntKind.i64
  (Int.ofNat
  (BitVec.toNat
  (BitVec.ofInt 64
  (IntKind.wrap IntKind.i64
  (IntKind.wrap IntKind.i64
  (U8.v
  (List.getD l 0
  Enc.dflt)) *
  (256 : Int))) |||
  BitVec.ofInt 64
  (IntKind.wrap IntKind.i64
  (U8.v
  (List.getD l 1
  Enc.dflt))))))) +
  (4 : Int))) -
  0)
  0 then
  bif Nat.beq (List.length l) 0 then c
  else 0
  else 0)
  fun i => encL l (0 + i))))))
  (65536 : Int)))]
  true 1),
  none,
  some
  (AObj.cells
  [Value.int IntKind.u8
  (IntKind.wrap IntKind.u8
  (Int.fdiv
  (Int.ofNat
  (refSum
  (natsU
  (listT U8
  (Td.fr 1
  (Int.toNat
  (IntKind.wrap IntKind.i64
  (IntKind.wrap IntKind.i64
  (IntKind.wrap IntKind.i64
  ((2 : Int) +
  IntKind.wrap IntKind.i64
  (Int.ofNat
  (BitVec.toNat
  (BitVec.ofInt 64
  (IntKind.wrap IntKind.i64
  (IntKind.wrap IntKind.i64
  (U8.v
  (List.getD l 0
  Enc.dflt)) *
  (256 : Int))) |||
  BitVec.ofInt 64
  (IntKind.wrap IntKind.i64
  (U8.v
  (List.getD l 1
  Enc.dflt))))))) +
  (4 : Int)) -
  (4 : Int))) -
  0)
  (bif
  Nat.beq
  (Int.toNat
  (IntKind.wrap IntKind.i64
  (IntKind.wrap IntKind.i64
  ((2 : Int) +
  IntKind.wrap IntKind.i64
  (Int.ofNat
  (BitVec.toNat
  (BitVec.ofInt 64
  (IntKind.wrap IntKind.i64
  (IntKind.wrap IntKind.i64
  (U8.v
  (List.getD l 0
  Enc.dflt)) *
  (256 : Int))) |||
  BitVec.ofInt 64
  (IntKind.wrap IntKind.i64
  (U8.v
  (List.getD l 1
  Enc.dflt))))))) +
  (4 : Int))) -
  0)
  0 then
  bif Nat.beq (List.length l) 0 then c
  else 0
  else 0)
  fun i => encL l (0 + i))))))
  (256 : Int)))]
  true 1),
  none,
  some
  (AObj.cells
  [Value.int IntKind.u8
  (IntKind.wrap IntKind.u8
  (Int.fdiv
  (Int.ofNat
  (refSum
  (natsU
  (listT U8
  (Td.fr 1
  (Int.toNat
  (IntKind.wrap IntKind.i64
  (IntKind.wrap IntKind.i64
  (IntKind.wrap IntKind.i64
  ((2 : Int) +
  IntKind.wrap IntKind.i64
  (Int.ofNat
  (BitVec.toNat
  (BitVec.ofInt 64
  (IntKind.wrap IntKind.i64
  (IntKind.wrap IntKind.i64
  (U8.v
  (List.getD l 0
  Enc.dflt)) *
  (256 : Int))) |||
  BitVec.ofInt 64
  (IntKind.wrap IntKind.i64
  (U8.v
  (List.getD l 1
  Enc.dflt))))))) +
  (4 : Int)) -
  (4 : Int))) -
  0)
  (bif
  Nat.beq
  (Int.toNat
  (IntKind.wrap IntKind.i64
  (IntKind.wrap IntKind.i64
  ((2 : Int) +
  IntKind.wrap IntKind.i64
  (Int.ofNat
  (BitVec.toNat
  (BitVec.ofInt 64
  (IntKind.wrap IntKind.i64
  (IntKind.wrap IntKind.i64
  (U8.v
  (List.getD l 0
  Enc.dflt)) *
  (256 : Int))) |||
  BitVec.ofInt 64
  (IntKind.wrap IntKind.i64
  (U8.v
  (List.getD l 1
  Enc.dflt))))))) +
  (4 : Int))) -
  0)
  0 then
  bif Nat.beq (List.length l) 0 then c
  else 0
  else 0)
  fun i => encL l (0 + i))))))
  (1 : Int)))]
  true 1),
  some
  (AObj.cells
  [Value.int IntKind.u8
  (IntKind.wrap IntKind.u8
  (Int.fdiv
  (Int.ofNat
  (refSum
  (natsU
  (listT U8
  (Td.fr 1
  (Int.toNat
  (IntKind.wrap IntKind.i64
  (IntKind.wrap IntKind.i64
  (IntKind.wrap IntKind.i64
  ((2 : Int) +
  IntKind.wrap IntKind.i64
  (Int.ofNat
  (BitVec.toNat
  (BitVec.ofInt 64
  (IntKind.wrap IntKind.i64
  (IntKind.wrap IntKind.i64
  (U8.v
  (List.getD l 0
  Enc.dflt)) *
  (256 : Int))) |||
  BitVec.ofInt 64
  (IntKind.wrap IntKind.i64
  (U8.v
  (List.getD l 1
  Enc.dflt))))))) +
  (4 : Int)) -
  (4 : Int))) -
  0)
  (bif
  Nat.beq
  (Int.toNat
  (IntKind.wrap IntKind.i64
  (IntKind.wrap IntKind.i64
  ((2 : Int) +
  IntKind.wrap IntKind.i64
  (Int.ofNat
  (BitVec.toNat
  (BitVec.ofInt 64
  (IntKind.wrap IntKind.i64
  (IntKind.wrap IntKind.i64
  (U8.v
  (List.getD l 0
  Enc.dflt)) *
  (256 : Int))) |||
  BitVec.ofInt 64
  (IntKind.wrap IntKind.i64
  (U8.v
  (List.getD l 1
  Enc.dflt))))))) +
  (4 : Int))) -
  0)
  0 then
  bif Nat.beq (List.length l) 0 then c
  else 0
  else 0)
  fun i => encL l (0 + i))))))
  (16777216 : Int))),
  Value.int IntKind.u8
  (IntKind.wrap IntKind.u8
  (Int.fdiv
  (Int.ofNat
  (refSum
  (natsU
  (listT U8
  (Td.fr 1
  (Int.toNat
  (IntKind.wrap IntKind.i64
  (IntKind.wrap IntKind.i64
  (IntKind.wrap IntKind.i64
  ((2 : Int) +
  IntKind.wrap IntKind.i64
  (Int.ofNat
  (BitVec.toNat
  (BitVec.ofInt 64
  (IntKind.wrap IntKind.i64
  (IntKind.wrap IntKind.i64
  (U8.v
  (List.getD l 0
  Enc.dflt)) *
  (256 : Int))) |||
  BitVec.ofInt 64
  (IntKind.wrap IntKind.i64
  (U8.v
  (List.getD l 1
  Enc.dflt))))))) +
  (4 : Int)) -
  (4 : Int))) -
  0)
  (bif
  Nat.beq
  (Int.toNat
  (IntKind.wrap IntKind.i64
  (IntKind.wrap IntKind.i64
  ((2 : Int) +
  IntKind.wrap IntKind.i64
  (Int.ofNat
  (BitVec.toNat
  (BitVec.ofInt 64
  (IntKind.wrap IntKind.i64
  (IntKind.wrap IntKind.i64
  (U8.v
  (List.getD l 0
  Enc.dflt)) *
  (256 : Int))) |||
  BitVec.ofInt 64
  (IntKind.wrap IntKind.i64
  (U8.v
  (List.getD l 1
  Enc.dflt))))))) +
  (4 : Int))) -
  0)
  0 then
  bif Nat.beq (List.length l) 0 then c
  else 0
  else 0)
  fun i => encL l (0 + i))))))
  (65536 : Int))),
  Value.int IntKind.u8
  (IntKind.wrap IntKind.u8
  (Int.fdiv
  (Int.ofNat
  (refSum
  (natsU
  (listT U8
  (Td.fr 1
  (Int.toNat
  (IntKind.wrap IntKind.i64
  (IntKind.wrap IntKind.i64
  (IntKind.wrap IntKind.i64
  ((2 : Int) +
  IntKind.wrap IntKind.i64
  (Int.ofNat
  (BitVec.toNat
  (BitVec.ofInt 64
  (IntKind.wrap IntKind.i64
  (IntKind.wrap IntKind.i64
  (U8.v
  (List.getD l 0
  Enc.dflt)) *
  (256 : Int))) |||
  BitVec.ofInt 64
  (IntKind.wrap IntKind.i64
  (U8.v
  (List.getD l 1
  Enc.dflt))))))) +
  (4 : Int)) -
  (4 : Int))) -
  0)
  (bif
  Nat.beq
  (Int.toNat
  (IntKind.wrap IntKind.i64
  (IntKind.wrap IntKind.i64
  ((2 : Int) +
  IntKind.wrap IntKind.i64
  (Int.ofNat
  (BitVec.toNat
  (BitVec.ofInt 64
  (IntKind.wrap IntKind.i64
  (IntKind.wrap IntKind.i64
  (U8.v
  (List.getD l 0
  Enc.dflt)) *
  (256 : Int))) |||
  BitVec.ofInt 64
  (IntKind.wrap IntKind.i64
  (U8.v
  (List.getD l 1
  Enc.dflt))))))) +
  (4 : Int))) -
  0)
  0 then
  bif Nat.beq (List.length l) 0 then c
  else 0
  else 0)
  fun i => encL l (0 + i))))))
  (256 : Int))),
  Value.int IntKind.u8
  (IntKind.wrap IntKind.u8
  (Int.fdiv
  (Int.ofNat
  (refSum
  (natsU
  (listT U8
  (Td.fr 1
  (Int.toNat
  (IntKind.wrap IntKind.i64
  (IntKind.wrap IntKind.i64
  (IntKind.wrap IntKind.i64
  ((2 : Int) +
  IntKind.wrap IntKind.i64
  (Int.ofNat
  (BitVec.toNat
  (BitVec.ofInt 64
  (IntKind.wrap IntKind.i64
  (IntKind.wrap IntKind.i64
  (U8.v
  (List.getD l 0
  Enc.dflt)) *
  (256 : Int))) |||
  BitVec.ofInt 64
  (IntKind.wrap IntKind.i64
  (U8.v
  (List.getD l 1
  Enc.dflt))))))) +
  (4 : Int)) -
  (4 : Int))) -
  0)
  (bif
  Nat.beq
  (Int.toNat
  (IntKind.wrap IntKind.i64
  (IntKind.wrap IntKind.i64
  ((2 : Int) +
  IntKind.wrap IntKind.i64
  (Int.ofNat
  (BitVec.toNat
  (BitVec.ofInt 64
  (IntKind.wrap IntKind.i64
  (IntKind.wrap IntKind.i64
  (U8.v
  (List.getD l 0
  Enc.dflt)) *
  (256 : Int))) |||
  BitVec.ofInt 64
  (IntKind.wrap IntKind.i64
  (U8.v
  (List.getD l 1
  Enc.dflt))))))) +
  (4 : Int))) -
  0)
  0 then
  bif Nat.beq (List.length l) 0 then c
  else 0
  else 0)
  fun i => encL l (0 + i))))))
  (1 : Int)))]
  false 1),
  none])
  (need
  (decide
  ((0 : Int) ≤
  IntKind.wrap IntKind.i64
  (IntKind.wrap IntKind.i64
  (IntKind.wrap IntKind.i64
  ((2 : Int) +
  IntKind.wrap IntKind.i64
  (Int.ofNat
  (BitVec.toNat
  (BitVec.ofInt 64
  (IntKind.wrap IntKind.i64
  (IntKind.wrap IntKind.i64
  (U8.v (List.getD l 0 Enc.dflt)) *
  (256 : Int))) |||
  BitVec.ofInt 64
  (IntKind.wrap IntKind.i64
  (U8.v (List.getD l 1 Enc.dflt))))))) +
  (4 : Int)) -
  (4 : Int))))
  (need
  (Nat.ble
  (Int.toNat
  (IntKind.wrap IntKind.i64
  (IntKind.wrap IntKind.i64
  (IntKind.wrap IntKind.i64
  ((2 : Int) +
  IntKind.wrap IntKind.i64
  (Int.ofNat
  (BitVec.toNat
  (BitVec.ofInt 64
  (IntKind.wrap IntKind.i64
  (IntKind.wrap IntKind.i64
  (U8.v (List.getD l 0 Enc.dflt)) *
  (256 : Int))) |||
  BitVec.ofInt 64
  (IntKind.wrap IntKind.i64
  (U8.v (List.getD l 1 Enc.dflt))))))) +
  (4 : Int)) -
  (4 : Int))))
  (Int.toNat
  (IntKind.wrap IntKind.i64
  (IntKind.wrap IntKind.i64
  ((2 : Int) +
  IntKind.wrap IntKind.i64
  (Int.ofNat
  (BitVec.toNat
  (BitVec.ofInt 64
  (IntKind.wrap IntKind.i64
  (IntKind.wrap IntKind.i64
  (U8.v (List.getD l 0 Enc.dflt)) *
  (256 : Int))) |||
  BitVec.ofInt 64
  (IntKind.wrap IntKind.i64
  (U8.v (List.getD l 1 Enc.dflt))))))) +
  (4 : Int))) -
  0))
  (need
  (Nat.ble 2
  (Int.toNat
  (IntKind.wrap IntKind.i64
  (IntKind.wrap IntKind.i64
  (IntKind.wrap IntKind.i64
  ((2 : Int) +
  IntKind.wrap IntKind.i64
  (Int.ofNat
  (BitVec.toNat
  (BitVec.ofInt 64
  (IntKind.wrap IntKind.i64
  (IntKind.wrap IntKind.i64
  (U8.v (List.getD l 0 Enc.dflt)) *
  (256 : Int))) |||
  BitVec.ofInt 64
  (IntKind.wrap IntKind.i64
  (U8.v (List.getD l 1 Enc.dflt))))))) +
  (4 : Int)) -
  (4 : Int)))))
  (need
  (true &&
  Nat.ble
  (2 +
  (Int.toNat
  (IntKind.wrap IntKind.i64
  (IntKind.wrap IntKind.i64
  (IntKind.wrap IntKind.i64
  ((2 : Int) +
  IntKind.wrap IntKind.i64
  (Int.ofNat
  (BitVec.toNat
  (BitVec.ofInt 64
  (IntKind.wrap IntKind.i64
  (IntKind.wrap IntKind.i64
  (U8.v
  (List.getD l 0 Enc.dflt)) *
  (256 : Int))) |||
  BitVec.ofInt 64
  (IntKind.wrap IntKind.i64
  (U8.v
  (List.getD l 1 Enc.dflt))))))) +
  (4 : Int)) -
  (4 : Int))) -
  2))
  (List.length l))
  (need
  (okC 1
  [Ta.cell
  (Td.fr 1
  (Int.toNat
  (IntKind.wrap IntKind.i64
  (IntKind.wrap IntKind.i64
  (IntKind.wrap IntKind.i64
  ((2 : Int) +
  IntKind.wrap IntKind.i64
  (Int.ofNat
  (BitVec.toNat
  (BitVec.ofInt 64
  (IntKind.wrap IntKind.i64
  (IntKind.wrap IntKind.i64
  (U8.v
  (List.getD l 0
  Enc.dflt)) *
  (256 : Int))) |||
  BitVec.ofInt 64
  (IntKind.wrap IntKind.i64
  (U8.v
  (List.getD l 1
  Enc.dflt))))))) +
  (4 : Int)) -
  (4 : Int))) -
  2)
  (bif
  Nat.beq
  (Int.toNat
  (IntKind.wrap IntKind.i64
  (IntKind.wrap IntKind.i64
  ((2 : Int) +
  IntKind.wrap IntKind.i64
  (Int.ofNat
  (BitVec.toNat
  (BitVec.ofInt 64
  (IntKind.wrap IntKind.i64
  (IntKind.wrap IntKind.i64
  (U8.v
  (List.getD l 0
  Enc.dflt)) *
  (256 : Int))) |||
  BitVec.ofInt 64
  (IntKind.wrap IntKind.i64
  (U8.v
  (List.getD l 1
  Enc.dflt))))))) +
  (4 : Int))) -
  0)
  0 then
  bif Nat.beq (List.length l) 0 then c else 0
  else 0)
  fun i => encL l (2 + i))])
  (K
  (AE.returned
  (Value.tuple
  (Array.mk
  [Value.slice (some (Addr.mk 15 0 (some 0)))
  (Int.toNat
  (IntKind.wrap IntKind.i64
  (IntKind.wrap IntKind.i64
  (IntKind.wrap IntKind.i64
  ((2 : Int) +
  IntKind.wrap IntKind.i64
  (Int.ofNat
  (BitVec.toNat
  (BitVec.ofInt 64
  (IntKind.wrap IntKind.i64
  (IntKind.wrap IntKind.i64
  (U8.v
  (List.getD l 0
  Enc.dflt)) *
  (256 : Int))) |||
  BitVec.ofInt 64
  (IntKind.wrap IntKind.i64
  (U8.v
  (List.getD l 1
  Enc.dflt))))))) +
  (4 : Int)) -
  (4 : Int))) -
  2)
  (bif
  Nat.beq
  (Int.toNat
  (IntKind.wrap IntKind.i64
  (IntKind.wrap IntKind.i64
  ((2 : Int) +
  IntKind.wrap IntKind.i64
  (Int.ofNat
  (BitVec.toNat
  (BitVec.ofInt 64
  (IntKind.wrap IntKind.i64
  (IntKind.wrap IntKind.i64
  (U8.v
  (List.getD l 0
  Enc.dflt)) *
  (256 : Int))) |||
  BitVec.ofInt 64
  (IntKind.wrap IntKind.i64
  (U8.v
  (List.getD l 1
  Enc.dflt))))))) +
  (4 : Int))) -
  0)
  0 then
  bif Nat.beq (List.length l) 0 then c else 0
  else 0),
  Value.int IntKind.i64
  (IntKind.wrap IntKind.i64
  (IntKind.wrap IntKind.i64
  ((2 : Int) +
  IntKind.wrap IntKind.i64
  (Int.ofNat
  (BitVec.toNat
  (BitVec.ofInt 64
  (IntKind.wrap IntKind.i64
  (IntKind.wrap IntKind.i64
  (U8.v
  (List.getD l 0 Enc.dflt)) *
  (256 : Int))) |||
  BitVec.ofInt 64
  (IntKind.wrap IntKind.i64
  (U8.v
  (List.getD l 1 Enc.dflt))))))) +
  (4 : Int))),
  Value.int IntKind.i64 (0 : Int)])))
  [some (AObj.row Rk.look 1 0 (List.length l) (encL l)),
  some
  (AObj.cells
  [Value.slice (some (Addr.mk 15 0 (some 0)))
  (Int.toNat
  (IntKind.wrap IntKind.i64
  (IntKind.wrap IntKind.i64
  (IntKind.wrap IntKind.i64
  ((2 : Int) +
  IntKind.wrap IntKind.i64
  (Int.ofNat
  (BitVec.toNat
  (BitVec.ofInt 64
  (IntKind.wrap IntKind.i64
  (IntKind.wrap IntKind.i64
  (U8.v
  (List.getD l 0
  Enc.dflt)) *
  (256 : Int))) |||
  BitVec.ofInt 64
  (IntKind.wrap IntKind.i64
  (U8.v
  (List.getD l 1
  Enc.dflt))))))) +
  (4 : Int)) -
  (4 : Int))) -
  2)
  (bif
  Nat.beq
  (Int.toNat
  (IntKind.wrap IntKind.i64
  (IntKind.wrap IntKind.i64
  ((2 : Int) +
  IntKind.wrap IntKind.i64
  (Int.ofNat
  (BitVec.toNat
  (BitVec.ofInt 64
  (IntKind.wrap IntKind.i64
  (IntKind.wrap IntKind.i64
  (U8.v
  (List.getD l 0
  Enc.dflt)) *
  (256 : Int))) |||
  BitVec.ofInt 64
  (IntKind.wrap IntKind.i64
  (U8.v
  (List.getD l 1
  Enc.dflt))))))) +
  (4 : Int))) -
  0)
  0 then
  bif Nat.beq (List.length l) 0 then c else 0
  else 0)]
  true 0),
  some
  (AObj.cells
  [Value.int IntKind.i64
  (IntKind.wrap IntKind.i64
  (IntKind.wrap IntKind.i64
  ((2 : Int) +
  IntKind.wrap IntKind.i64
  (Int.ofNat
  (BitVec.toNat
  (BitVec.ofInt 64
  (IntKind.wrap IntKind.i64
  (IntKind.wrap IntKind.i64
  (U8.v
  (List.getD l 0 Enc.dflt)) *
  (256 : Int))) |||
  BitVec.ofInt 64
  (IntKind.wrap IntKind.i64
  (U8.v
  (List.getD l 1 Enc.dflt))))))) +
  (4 : Int)))]
  true 0),
  some (AObj.cells [Value.int IntKind.i64 (0 : Int)] true 0),
  none,
  some
  (AObj.cells
  [Value.int IntKind.u8
  (IntKind.wrap IntKind.u8
  (Int.fdiv
  (Int.ofNat
  (refSum
  (natsU
  (listT U8
  (Td.fr 1
  (Int.toNat
  (IntKind.wrap IntKind.i64
  (IntKind.wrap IntKind.i64
  (IntKind.wrap IntKind.i64
  ((2 : Int) +
  IntKind.wrap IntKind.i64
  (Int.ofNat
  (BitVec.toNat
  (BitVec.ofInt 64
  (IntKind.wrap
  IntKind.i64
  (IntKind.wrap
  IntKind.i64
  (U8.v
  (List.getD l
  0
  Enc.dflt)) *
  (256 : Int))) |||
  BitVec.ofInt 64
  (IntKind.wrap
  IntKind.i64
  (U8.v
  (List.getD l
  1
  Enc.dflt))))))) +
  (4 : Int)) -
  (4 : Int))) -
  0)
  (bif
  Nat.beq
  (Int.toNat
  (IntKind.wrap IntKind.i64
  (IntKind.wrap IntKind.i64
  ((2 : Int) +
  IntKind.wrap IntKind.i64
  (Int.ofNat
  (BitVec.toNat
  (BitVec.ofInt 64
  (IntKind.wrap
  IntKind.i64
  (IntKind.wrap
  IntKind.i64
  (U8.v
  (List.getD l
  0
  Enc.dflt)) *
  (256 : Int))) |||
  BitVec.ofInt 64
  (IntKind.wrap
  IntKind.i64
  (U8.v
  (List.getD l
  1
  Enc.dflt))))))) +
  (4 : Int))) -
  0)
  0 then
  bif Nat.beq (List.length l) 0 then c
  else 0
  else 0)
  fun i => encL l (0 + i))))))
  (16777216 : Int)))]
  true 1),
  none,
  some
  (AObj.cells
  [Value.int IntKind.u8
  (IntKind.wrap IntKind.u8
  (Int.fdiv
  (Int.ofNat
  (refSum
  (natsU
  (listT U8
  (Td.fr 1
  (Int.toNat
  (IntKind.wrap IntKind.i64
  (IntKind.wrap IntKind.i64
  (IntKind.wrap IntKind.i64
  ((2 : Int) +
  IntKind.wrap IntKind.i64
  (Int.ofNat
  (BitVec.toNat
  (BitVec.ofInt 64
  (IntKind.wrap
  IntKind.i64
  (IntKind.wrap
  IntKind.i64
  (U8.v
  (List.getD l
  0
  Enc.dflt)) *
  (256 : Int))) |||
  BitVec.ofInt 64
  (IntKind.wrap
  IntKind.i64
  (U8.v
  (List.getD l
  1
  Enc.dflt))))))) +
  (4 : Int)) -
  (4 : Int))) -
  0)
  (bif
  Nat.beq
  (Int.toNat
  (IntKind.wrap IntKind.i64
  (IntKind.wrap IntKind.i64
  ((2 : Int) +
  IntKind.wrap IntKind.i64
  (Int.ofNat
  (BitVec.toNat
  (BitVec.ofInt 64
  (IntKind.wrap
  IntKind.i64
  (IntKind.wrap
  IntKind.i64
  (U8.v
  (List.getD l
  0
  Enc.dflt)) *
  (256 : Int))) |||
  BitVec.ofInt 64
  (IntKind.wrap
  IntKind.i64
  (U8.v
  (List.getD l
  1
  Enc.dflt))))))) +
  (4 : Int))) -
  0)
  0 then
  bif Nat.beq (List.length l) 0 then c
  else 0
  else 0)
  fun i => encL l (0 + i))))))
  (65536 : Int)))]
  true 1),
  none,
  some
  (AObj.cells
  [Value.int IntKind.u8
  (IntKind.wrap IntKind.u8
  (Int.fdiv
  (Int.ofNat
  (refSum
  (natsU
  (listT U8
  (Td.fr 1
  (Int.toNat
  (IntKind.wrap IntKind.i64
  (IntKind.wrap IntKind.i64
  (IntKind.wrap IntKind.i64
  ((2 : Int) +
  IntKind.wrap IntKind.i64
  (Int.ofNat
  (BitVec.toNat
  (BitVec.ofInt 64
  (IntKind.wrap
  IntKind.i64
  (IntKind.wrap
  IntKind.i64
  (U8.v
  (List.getD l
  0
  Enc.dflt)) *
  (256 : Int))) |||
  BitVec.ofInt 64
  (IntKind.wrap
  IntKind.i64
  (U8.v
  (List.getD l
  1
  Enc.dflt))))))) +
  (4 : Int)) -
  (4 : Int))) -
  0)
  (bif
  Nat.beq
  (Int.toNat
  (IntKind.wrap IntKind.i64
  (IntKind.wrap IntKind.i64
  ((2 : Int) +
  IntKind.wrap IntKind.i64
  (Int.ofNat
  (BitVec.toNat
  (BitVec.ofInt 64
  (IntKind.wrap
  IntKind.i64
  (IntKind.wrap
  IntKind.i64
  (U8.v
  (List.getD l
  0
  Enc.dflt)) *
  (256 : Int))) |||
  BitVec.ofInt 64
  (IntKind.wrap
  IntKind.i64
  (U8.v
  (List.getD l
  1
  Enc.dflt))))))) +
  (4 : Int))) -
  0)
  0 then
  bif Nat.beq (List.length l) 0 then c
  else 0
  else 0)
  fun i => encL l (0 + i))))))
  (256 : Int)))]
  true 1),
  none,
  some
  (AObj.cells
  [Value.int IntKind.u8
  (IntKind.wrap IntKind.u8
  (Int.fdiv
  (Int.ofNat
  (refSum
  (natsU
  (listT U8
  (Td.fr 1
  (Int.toNat
  (IntKind.wrap IntKind.i64
  (IntKind.wrap IntKind.i64
  (IntKind.wrap IntKind.i64
  ((2 : Int) +
  IntKind.wrap IntKind.i64
  (Int.ofNat
  (BitVec.toNat
  (BitVec.ofInt 64
  (IntKind.wrap
  IntKind.i64
  (IntKind.wrap
  IntKind.i64
  (U8.v
  (List.getD l
  0
  Enc.dflt)) *
  (256 : Int))) |||
  BitVec.ofInt 64
  (IntKind.wrap
  IntKind.i64
  (U8.v
  (List.getD l
  1
  Enc.dflt))))))) +
  (4 : Int)) -
  (4 : Int))) -
  0)
  (bif
  Nat.beq
  (Int.toNat
  (IntKind.wrap IntKind.i64
  (IntKind.wrap IntKind.i64
  ((2 : Int) +
  IntKind.wrap IntKind.i64
  (Int.ofNat
  (BitVec.toNat
  (BitVec.ofInt 64
  (IntKind.wrap
  IntKind.i64
  (IntKind.wrap
  IntKind.i64
  (U8.v
  (List.getD l
  0
  Enc.dflt)) *
  (256 : Int))) |||
  BitVec.ofInt 64
  (IntKind.wrap
  IntKind.i64
  (U8.v
  (List.getD l
  1
  Enc.dflt))))))) +
  (4 : Int))) -
  0)
  0 then
  bif Nat.beq (List.length l) 0 then c
  else 0
  else 0)
  fun i => encL l (0 + i))))))
  (1 : Int)))]
  true 1),
  some
  (AObj.cells
  [Value.int IntKind.u8
  (IntKind.wrap IntKind.u8
  (Int.fdiv
  (Int.ofNat
  (refSum
  (natsU
  (listT U8
  (Td.fr 1
  (Int.toNat
  (IntKind.wrap IntKind.i64
  (IntKind.wrap IntKind.i64
  (IntKind.wrap IntKind.i64
  ((2 : Int) +
  IntKind.wrap IntKind.i64
  (Int.ofNat
  (BitVec.toNat
  (BitVec.ofInt 64
  (IntKind.wrap
  IntKind.i64
  (IntKind.wrap
  IntKind.i64
  (U8.v
  (List.getD l
  0
  Enc.dflt)) *
  (256 : Int))) |||
  BitVec.ofInt 64
  (IntKind.wrap
  IntKind.i64
  (U8.v
  (List.getD l
  1
  Enc.dflt))))))) +
  (4 : Int)) -
  (4 : Int))) -
  0)
  (bif
  Nat.beq
  (Int.toNat
  (IntKind.wrap IntKind.i64
  (IntKind.wrap IntKind.i64
  ((2 : Int) +
  IntKind.wrap IntKind.i64
  (Int.ofNat
  (BitVec.toNat
  (BitVec.ofInt 64
  (IntKind.wrap
  IntKind.i64
  (IntKind.wrap
  IntKind.i64
  (U8.v
  (List.getD l
  0
  Enc.dflt)) *
  (256 : Int))) |||
  BitVec.ofInt 64
  (IntKind.wrap
  IntKind.i64
  (U8.v
  (List.getD l
  1
  Enc.dflt))))))) +
  (4 : Int))) -
  0)
  0 then
  bif Nat.beq (List.length l) 0 then c
  else 0
  else 0)
  fun i => encL l (0 + i))))))
  (16777216 : Int))),
  Value.int IntKind.u8
  (IntKind.wrap IntKind.u8
  (Int.fdiv
  (Int.ofNat
  (refSum
  (natsU
  (listT U8
  (Td.fr 1
  (Int.toNat
  (IntKind.wrap IntKind.i64
  (IntKind.wrap IntKind.i64
  (IntKind.wrap IntKind.i64
  ((2 : Int) +
  IntKind.wrap IntKind.i64
  (Int.ofNat
  (BitVec.toNat
  (BitVec.ofInt 64
  (IntKind.wrap
  IntKind.i64
  (IntKind.wrap
  IntKind.i64
  (U8.v
  (List.getD l
  0
  Enc.dflt)) *
  (256 : Int))) |||
  BitVec.ofInt 64
  (IntKind.wrap
  IntKind.i64
  (U8.v
  (List.getD l
  1
  Enc.dflt))))))) +
  (4 : Int)) -
  (4 : Int))) -
  0)
  (bif
  Nat.beq
  (Int.toNat
  (IntKind.wrap IntKind.i64
  (IntKind.wrap IntKind.i64
  ((2 : Int) +
  IntKind.wrap IntKind.i64
  (Int.ofNat
  (BitVec.toNat
  (BitVec.ofInt 64
  (IntKind.wrap
  IntKind.i64
  (IntKind.wrap
  IntKind.i64
  (U8.v
  (List.getD l
  0
  Enc.dflt)) *
  (256 : Int))) |||
  BitVec.ofInt 64
  (IntKind.wrap
  IntKind.i64
  (U8.v
  (List.getD l
  1
  Enc.dflt))))))) +
  (4 : Int))) -
  0)
  0 then
  bif Nat.beq (List.length l) 0 then c
  else 0
  else 0)
  fun i => encL l (0 + i))))))
  (65536 : Int))),
  Value.int IntKind.u8
  (IntKind.wrap IntKind.u8
  (Int.fdiv
  (Int.ofNat
  (refSum
  (natsU
  (listT U8
  (Td.fr 1
  (Int.toNat
  (IntKind.wrap IntKind.i64
  (IntKind.wrap IntKind.i64
  (IntKind.wrap IntKind.i64
  ((2 : Int) +
  IntKind.wrap IntKind.i64
  (Int.ofNat
  (BitVec.toNat
  (BitVec.ofInt 64
  (IntKind.wrap
  IntKind.i64
  (IntKind.wrap
  IntKind.i64
  (U8.v
  (List.getD l
  0
  Enc.dflt)) *
  (256 : Int))) |||
  BitVec.ofInt 64
  (IntKind.wrap
  IntKind.i64
  (U8.v
  (List.getD l
  1
  Enc.dflt))))))) +
  (4 : Int)) -
  (4 : Int))) -
  0)
  (bif
  Nat.beq
  (Int.toNat
  (IntKind.wrap IntKind.i64
  (IntKind.wrap IntKind.i64
  ((2 : Int) +
  IntKind.wrap IntKind.i64
  (Int.ofNat
  (BitVec.toNat
  (BitVec.ofInt 64
  (IntKind.wrap
  IntKind.i64
  (IntKind.wrap
  IntKind.i64
  (U8.v
  (List.getD l
  0
  Enc.dflt)) *
  (256 : Int))) |||
  BitVec.ofInt 64
  (IntKind.wrap
  IntKind.i64
  (U8.v
  (List.getD l
  1
  Enc.dflt))))))) +
  (4 : Int))) -
  0)
  0 then
  bif Nat.beq (List.length l) 0 then c
  else 0
  else 0)
  fun i => encL l (0 + i))))))
  (256 : Int))),
  Value.int IntKind.u8
  (IntKind.wrap IntKind.u8
  (Int.fdiv
  (Int.ofNat
  (refSum
  (natsU
  (listT U8
  (Td.fr 1
  (Int.toNat
  (IntKind.wrap IntKind.i64
  (IntKind.wrap IntKind.i64
  (IntKind.wrap IntKind.i64
  ((2 : Int) +
  IntKind.wrap IntKind.i64
  (Int.ofNat
  (BitVec.toNat
  (BitVec.ofInt 64
  (IntKind.wrap
  IntKind.i64
  (IntKind.wrap
  IntKind.i64
  (U8.v
  (List.getD l
  0
  Enc.dflt)) *
  (256 : Int))) |||
  BitVec.ofInt 64
  (IntKind.wrap
  IntKind.i64
  (U8.v
  (List.getD l
  1
  Enc.dflt))))))) +
  (4 : Int)) -
  (4 : Int))) -
  0)
  (bif
  Nat.beq
  (Int.toNat
  (IntKind.wrap IntKind.i64
  (IntKind.wrap IntKind.i64
  ((2 : Int) +
  IntKind.wrap IntKind.i64
  (Int.ofNat
  (BitVec.toNat
  (BitVec.ofInt 64
  (IntKind.wrap
  IntKind.i64
  (IntKind.wrap
  IntKind.i64
  (U8.v
  (List.getD l
  0
  Enc.dflt)) *
  (256 : Int))) |||
  BitVec.ofInt 64
  (IntKind.wrap
  IntKind.i64
  (U8.v
  (List.getD l
  1
  Enc.dflt))))))) +
  (4 : Int))) -
  0)
  0 then
  bif Nat.beq (List.length l) 0 then c
  else 0
  else 0)
  fun i => encL l (0 + i))))))
  (1 : Int)))]
  false 1),
  none, none,
  some
  (AObj.row Rk.mine 1 0
  (Int.toNat
  (IntKind.wrap IntKind.i64
  (IntKind.wrap IntKind.i64
  (IntKind.wrap IntKind.i64
  ((2 : Int) +
  IntKind.wrap IntKind.i64
  (Int.ofNat
  (BitVec.toNat
  (BitVec.ofInt 64
  (IntKind.wrap IntKind.i64
  (IntKind.wrap IntKind.i64
  (U8.v
  (List.getD l 0
  Enc.dflt)) *
  (256 : Int))) |||
  BitVec.ofInt 64
  (IntKind.wrap IntKind.i64
  (U8.v
  (List.getD l 1
  Enc.dflt))))))) +
  (4 : Int)) -
  (4 : Int))) -
  2)
  fun i => encL l (2 + i))]))))))))))))))))))))))) := by kernel_rfl
end Go.Proofs.Ytdmagcdkklacdaa.Ev

/-! What has to hold: printed by the evaluator. -/
set_option linter.unusedVariables false
set_option maxRecDepth 1000000
namespace Go.Proofs.Ytdmagcdkklacdaa.Ev
open Go Go.Proofs
theorem vc_taker (l : List U8) (c : Nat) (β : Bs) (K : AE → List (Option AObj) → Prop) : lawE Try.prog toldP 100 20 β (fun _ => 8) (cnOf 1 fun _ => []) (fun _ _ => False) 18 [.slice (some ⟨0, 0, some 0⟩) l.length c] (mkS [some (rowO .look l)]) (outK K) =
(  br (decide (Int.ofNat (List.length l) < (2 : Int)))
  (K
  (AE.returned
  (Value.tuple
  (Array.mk
  [Value.slice none 0 0, Value.int IntKind.i64 (0 : Int), Value.int IntKind.i64 (11 : Int)])))
  [some (AObj.row Rk.look 1 0 (List.length l) (encL l))])
  (need (Nat.blt 0 (List.length l))
  (need (true && Nat.blt 0 (List.length l))
  (need (Nat.blt 1 (List.length l))
  (need (true && Nat.blt 1 (List.length l))
  (br
  (decide
  (IntKind.wrap IntKind.i64
  (IntKind.wrap IntKind.i64
  (IntKind.wrap IntKind.i64 (U8.v (List.getD l 0 Enc.dflt)) * (256 : Int)) +
  IntKind.wrap IntKind.i64 (U8.v (List.getD l 1 Enc.dflt))) >
  (200 : Int)))
  (K
  (AE.returned
  (Value.tuple
  (Array.mk
  [Value.slice none 0 0, Value.int IntKind.i64 (0 : Int),
  Value.int IntKind.i64 (2 : Int)])))
  [some (AObj.row Rk.look 1 0 (List.length l) (encL l))])
  (br
  (decide
  (Int.ofNat (List.length l) <
  IntKind.wrap IntKind.i64
  (IntKind.wrap IntKind.i64
  (IntKind.wrap IntKind.i64
  (IntKind.wrap IntKind.i64 (U8.v (List.getD l 0 Enc.dflt)) * (256 : Int)) +
  IntKind.wrap IntKind.i64 (U8.v (List.getD l 1 Enc.dflt))) +
  (6 : Int))))
  (K
  (AE.returned
  (Value.tuple
  (Array.mk
  [Value.slice none 0 0, Value.int IntKind.i64 (0 : Int),
  Value.int IntKind.i64 (11 : Int)])))
  [some (AObj.row Rk.look 1 0 (List.length l) (encL l))])
  (need
  (decide
  ((0 : Int) ≤
  IntKind.wrap IntKind.i64
  ((2 : Int) +
  IntKind.wrap IntKind.i64
  (IntKind.wrap IntKind.i64
  (IntKind.wrap IntKind.i64 (U8.v (List.getD l 0 Enc.dflt)) * (256 : Int)) +
  IntKind.wrap IntKind.i64 (U8.v (List.getD l 1 Enc.dflt))))))
  (need
  (Nat.ble
  (Int.toNat
  (IntKind.wrap IntKind.i64
  ((2 : Int) +
  IntKind.wrap IntKind.i64
  (IntKind.wrap IntKind.i64
  (IntKind.wrap IntKind.i64 (U8.v (List.getD l 0 Enc.dflt)) * (256 : Int)) +
  IntKind.wrap IntKind.i64 (U8.v (List.getD l 1 Enc.dflt))))))
  (List.length l))
  (need
  (Nat.ble 2
  (Int.toNat
  (IntKind.wrap IntKind.i64
  ((2 : Int) +
  IntKind.wrap IntKind.i64
  (IntKind.wrap IntKind.i64
  (IntKind.wrap IntKind.i64 (U8.v (List.getD l 0 Enc.dflt)) * (256 : Int)) +
  IntKind.wrap IntKind.i64 (U8.v (List.getD l 1 Enc.dflt)))))))
  (need
  (true &&
  Nat.ble
  (2 +
  (Int.toNat
  (IntKind.wrap IntKind.i64
  ((2 : Int) +
  IntKind.wrap IntKind.i64
  (IntKind.wrap IntKind.i64
  (IntKind.wrap IntKind.i64 (U8.v (List.getD l 0 Enc.dflt)) *
  (256 : Int)) +
  IntKind.wrap IntKind.i64 (U8.v (List.getD l 1 Enc.dflt))))) -
  2))
  (List.length l))
  (need
  (ok1 U8 (fun l x => List.all l (okA U8))
  [Ta.cell
  (Td.fr 1
  (Int.toNat
  (IntKind.wrap IntKind.i64
  ((2 : Int) +
  IntKind.wrap IntKind.i64
  (IntKind.wrap IntKind.i64
  (IntKind.wrap IntKind.i64 (U8.v (List.getD l 0 Enc.dflt)) *
  (256 : Int)) +
  IntKind.wrap IntKind.i64 (U8.v (List.getD l 1 Enc.dflt))))) -
  2)
  (bif Nat.beq (List.length l) 0 then c else 0) fun i =>
  encL l (2 + i))])
  (need
  (true &&
  Nat.ble
  (0 +
  List.length
  (putL
  (listT U8
  (Td.fr 1
  (Int.toNat
  (IntKind.wrap IntKind.i64
  ((2 : Int) +
  IntKind.wrap IntKind.i64
  (IntKind.wrap IntKind.i64
  (IntKind.wrap IntKind.i64
  (U8.v (List.getD l 0 Enc.dflt)) *
  (256 : Int)) +
  IntKind.wrap IntKind.i64
  (U8.v (List.getD l 1 Enc.dflt))))) -
  2)
  (bif Nat.beq (List.length l) 0 then c else 0) fun i =>
  encL l (2 + i)))))
  (List.length
  (putL
  (listT U8
  (Td.fr 1
  (Int.toNat
  (IntKind.wrap IntKind.i64
  ((2 : Int) +
  IntKind.wrap IntKind.i64
  (IntKind.wrap IntKind.i64
  (IntKind.wrap IntKind.i64 (U8.v (List.getD l 0 Enc.dflt)) *
  (256 : Int)) +
  IntKind.wrap IntKind.i64 (U8.v (List.getD l 1 Enc.dflt))))) -
  2)
  (bif Nat.beq (List.length l) 0 then c else 0) fun i =>
  encL l (2 + i))))))
  (need
  (allB
  (List.length
  (putL
  (listT U8
  (Td.fr 1
  (Int.toNat
  (IntKind.wrap IntKind.i64
  ((2 : Int) +
  IntKind.wrap IntKind.i64
  (IntKind.wrap IntKind.i64
  (IntKind.wrap IntKind.i64 (U8.v (List.getD l 0 Enc.dflt)) *
  (256 : Int)) +
  IntKind.wrap IntKind.i64 (U8.v (List.getD l 1 Enc.dflt))))) -
  2)
  (bif Nat.beq (List.length l) 0 then c else 0) fun i =>
  encL l (2 + i)))))
  fun j =>
  encL
  (putL
  (listT U8
  (Td.fr 1
  (Int.toNat
  (IntKind.wrap IntKind.i64
  ((2 : Int) +
  IntKind.wrap IntKind.i64
  (IntKind.wrap IntKind.i64
  (IntKind.wrap IntKind.i64 (U8.v (List.getD l 0 Enc.dflt)) *
  (256 : Int)) +
  IntKind.wrap IntKind.i64 (U8.v (List.getD l 1 Enc.dflt))))) -
  2)
  (bif Nat.beq (List.length l) 0 then c else 0) fun i =>
  encL l (2 + i))))
  (0 + j))
  (need
  (decide
  ((0 : Int) ≤
  IntKind.wrap IntKind.i64
  (IntKind.wrap IntKind.i64
  (IntKind.wrap IntKind.i64
  (IntKind.wrap IntKind.i64 (U8.v (List.getD l 0 Enc.dflt)) *
  (256 : Int)) +
  IntKind.wrap IntKind.i64 (U8.v (List.getD l 1 Enc.dflt))) +
  (6 : Int))))
  (need
  (Nat.ble
  (Int.toNat
  (IntKind.wrap IntKind.i64
  (IntKind.wrap IntKind.i64
  (IntKind.wrap IntKind.i64
  (IntKind.wrap IntKind.i64 (U8.v (List.getD l 0 Enc.dflt)) *
  (256 : Int)) +
  IntKind.wrap IntKind.i64 (U8.v (List.getD l 1 Enc.dflt))) +
  (6 : Int))))
  (List.length l))
  (need
  (true &&
  Nat.ble
  (0 +
  (Int.toNat
  (IntKind.wrap IntKind.i64
  (IntKind.wrap IntKind.i64
  (IntKind.wrap IntKind.i64
  (IntKind.wrap IntKind.i64
  (U8.v (List.getD l 0 Enc.dflt)) *
  (256 : Int)) +
  IntKind.wrap IntKind.i64 (U8.v (List.getD l 1 Enc.dflt))) +
  (6 : Int))) -
  0))
  (List.length l))
  (need
  (allB
  (Int.toNat
  (IntKind.wrap IntKind.i64
  (IntKind.wrap IntKind.i64
  (IntKind.wrap IntKind.i64
  (IntKind.wrap IntKind.i64 (U8.v (List.getD l 0 Enc.dflt)) *
  (256 : Int)) +
  IntKind.wrap IntKind.i64 (U8.v (List.getD l 1 Enc.dflt))) +
  (6 : Int))) -
  0)
  fun j => encL l (0 + j))
  (br
  (!List.map
  (fun j =>
  byteF
  (encL
  (putL
  (listT U8
  (Td.fr 1
  (Int.toNat
  (IntKind.wrap IntKind.i64
  ((2 : Int) +
  IntKind.wrap IntKind.i64
  (IntKind.wrap IntKind.i64
  (IntKind.wrap IntKind.i64
  (U8.v (List.getD l 0 Enc.dflt)) *
  (256 : Int)) +
  IntKind.wrap IntKind.i64
  (U8.v (List.getD l 1 Enc.dflt))))) -
  2)
  (bif Nat.beq (List.length l) 0 then c else 0)
  fun i => encL l (2 + i))))
  (0 + j) 0))
  (List.range
  (List.length
  (putL
  (listT U8
  (Td.fr 1
  (Int.toNat
  (IntKind.wrap IntKind.i64
  ((2 : Int) +
  IntKind.wrap IntKind.i64
  (IntKind.wrap IntKind.i64
  (IntKind.wrap IntKind.i64
  (U8.v (List.getD l 0 Enc.dflt)) *
  (256 : Int)) +
  IntKind.wrap IntKind.i64
  (U8.v (List.getD l 1 Enc.dflt))))) -
  2)
  (bif Nat.beq (List.length l) 0 then c else 0)
  fun i => encL l (2 + i)))))) ==
  List.map (fun j => byteF (encL l (0 + j) 0))
  (List.range
  (Int.toNat
  (IntKind.wrap IntKind.i64
  (IntKind.wrap IntKind.i64
  (IntKind.wrap IntKind.i64
  (IntKind.wrap IntKind.i64
  (U8.v (List.getD l 0 Enc.dflt)) *
  (256 : Int)) +
  IntKind.wrap IntKind.i64
  (U8.v (List.getD l 1 Enc.dflt))) +
  (6 : Int))) -
  0)))
  (K
  (AE.returned
  (Value.tuple
  (Array.mk
  [Value.slice none 0 0, Value.int IntKind.i64 (0 : Int),
  Value.int IntKind.i64 (2 : Int)])))
  [some (AObj.row Rk.look 1 0 (List.length l) (encL l)), none,
  some
  (AObj.row Rk.mine 1 0
  (List.length
  (putL
  (listT U8
  (Td.fr 1
  (Int.toNat
  (IntKind.wrap IntKind.i64
  ((2 : Int) +
  IntKind.wrap IntKind.i64
  (IntKind.wrap IntKind.i64
  (IntKind.wrap IntKind.i64
  (U8.v (List.getD l 0 Enc.dflt)) *
  (256 : Int)) +
  IntKind.wrap IntKind.i64
  (U8.v (List.getD l 1 Enc.dflt))))) -
  2)
  (bif Nat.beq (List.length l) 0 then c else 0)
  fun i => encL l (2 + i)))))
  (encL
  (putL
  (listT U8
  (Td.fr 1
  (Int.toNat
  (IntKind.wrap IntKind.i64
  ((2 : Int) +
  IntKind.wrap IntKind.i64
  (IntKind.wrap IntKind.i64
  (IntKind.wrap IntKind.i64
  (U8.v (List.getD l 0 Enc.dflt)) *
  (256 : Int)) +
  IntKind.wrap IntKind.i64
  (U8.v (List.getD l 1 Enc.dflt))))) -
  2)
  (bif Nat.beq (List.length l) 0 then c else 0)
  fun i => encL l (2 + i))))))])
  (need
  (decide
  ((0 : Int) ≤
  IntKind.wrap IntKind.i64
  ((2 : Int) +
  IntKind.wrap IntKind.i64
  (IntKind.wrap IntKind.i64
  (IntKind.wrap IntKind.i64
  (U8.v (List.getD l 0 Enc.dflt)) *
  (256 : Int)) +
  IntKind.wrap IntKind.i64 (U8.v (List.getD l 1 Enc.dflt))))))
  (need
  (Nat.ble
  (Int.toNat
  (IntKind.wrap IntKind.i64
  ((2 : Int) +
  IntKind.wrap IntKind.i64
  (IntKind.wrap IntKind.i64
  (IntKind.wrap IntKind.i64
  (U8.v (List.getD l 0 Enc.dflt)) *
  (256 : Int)) +
  IntKind.wrap IntKind.i64
  (U8.v (List.getD l 1 Enc.dflt))))))
  (List.length l))
  (need
  (Nat.ble 2
  (Int.toNat
  (IntKind.wrap IntKind.i64
  ((2 : Int) +
  IntKind.wrap IntKind.i64
  (IntKind.wrap IntKind.i64
  (IntKind.wrap IntKind.i64
  (U8.v (List.getD l 0 Enc.dflt)) *
  (256 : Int)) +
  IntKind.wrap IntKind.i64
  (U8.v (List.getD l 1 Enc.dflt)))))))
  (need
  (true &&
  Nat.ble
  (2 +
  (Int.toNat
  (IntKind.wrap IntKind.i64
  ((2 : Int) +
  IntKind.wrap IntKind.i64
  (IntKind.wrap IntKind.i64
  (IntKind.wrap IntKind.i64
  (U8.v (List.getD l 0 Enc.dflt)) *
  (256 : Int)) +
  IntKind.wrap IntKind.i64
  (U8.v (List.getD l 1 Enc.dflt))))) -
  2))
  (List.length l))
  (need
  (Nat.ble
  (0 +
  (Int.toNat
  (IntKind.wrap IntKind.i64
  ((2 : Int) +
  IntKind.wrap IntKind.i64
  (IntKind.wrap IntKind.i64
  (IntKind.wrap IntKind.i64
  (U8.v (List.getD l 0 Enc.dflt)) *
  (256 : Int)) +
  IntKind.wrap IntKind.i64
  (U8.v (List.getD l 1 Enc.dflt))))) -
  2))
  1000000)
  (K
  (AE.returned
  (Value.tuple
  (Array.mk
  [Value.slice
  (some (Addr.mk 4 0 (some 0)))
  (Int.toNat
  (IntKind.wrap IntKind.i64
  ((2 : Int) +
  IntKind.wrap IntKind.i64
  (IntKind.wrap IntKind.i64
  (IntKind.wrap IntKind.i64
  (U8.v (List.getD l 0 Enc.dflt)) *
  (256 : Int)) +
  IntKind.wrap IntKind.i64
  (U8.v (List.getD l 1 Enc.dflt))))) -
  2)
  0,
  Value.int IntKind.i64
  (IntKind.wrap IntKind.i64
  (IntKind.wrap IntKind.i64
  (IntKind.wrap IntKind.i64
  (IntKind.wrap IntKind.i64
  (U8.v (List.getD l 0 Enc.dflt)) *
  (256 : Int)) +
  IntKind.wrap IntKind.i64
  (U8.v (List.getD l 1 Enc.dflt))) +
  (6 : Int))),
  Value.int IntKind.i64 (0 : Int)])))
  [some (AObj.row Rk.look 1 0 (List.length l) (encL l)),
  none,
  some
  (AObj.row Rk.mine 1 0
  (List.length
  (putL
  (listT U8
  (Td.fr 1
  (Int.toNat
  (IntKind.wrap IntKind.i64
  ((2 : Int) +
  IntKind.wrap IntKind.i64
  (IntKind.wrap IntKind.i64
  (IntKind.wrap IntKind.i64
  (U8.v
  (List.getD l 0 Enc.dflt)) *
  (256 : Int)) +
  IntKind.wrap IntKind.i64
  (U8.v
  (List.getD l 1 Enc.dflt))))) -
  2)
  (bif Nat.beq (List.length l) 0 then c
  else 0)
  fun i => encL l (2 + i)))))
  (encL
  (putL
  (listT U8
  (Td.fr 1
  (Int.toNat
  (IntKind.wrap IntKind.i64
  ((2 : Int) +
  IntKind.wrap IntKind.i64
  (IntKind.wrap IntKind.i64
  (IntKind.wrap IntKind.i64
  (U8.v
  (List.getD l 0 Enc.dflt)) *
  (256 : Int)) +
  IntKind.wrap IntKind.i64
  (U8.v
  (List.getD l 1 Enc.dflt))))) -
  2)
  (bif Nat.beq (List.length l) 0 then c
  else 0)
  fun i => encL l (2 + i)))))),
  some (AObj.cells [] true 1),
  some
  (AObj.row Rk.mine 1 0
  (Int.toNat
  (IntKind.wrap IntKind.i64
  ((2 : Int) +
  IntKind.wrap IntKind.i64
  (IntKind.wrap IntKind.i64
  (IntKind.wrap IntKind.i64
  (U8.v (List.getD l 0 Enc.dflt)) *
  (256 : Int)) +
  IntKind.wrap IntKind.i64
  (U8.v (List.getD l 1 Enc.dflt))))) -
  2)
  fun j => encL l (2 + j))]))))))))))))))))))))))))) := by kernel_rfl
end Go.Proofs.Ytdmagcdkklacdaa.Ev

/-! fram.Take, ref16.TakeFrame: told to the evaluator. -/
set_option linter.unusedVariables false
set_option linter.unusedSimpArgs false
set_option maxRecDepth 100000
namespace Go.Proofs.Ytdmagcdkklacdaa.Ev
open Go Go.Proofs Go.RowKit

def lenU (l : List U8) : Nat := (l.getD 0 Enc.dflt).v.toNat * 256 + (l.getD 1 Enc.dflt).v.toNat
def midU (l : List U8) : List U8 := (l.drop 2).take (lenU l)
/-- is a frame there? 0, 2, 11: as the numbers of errors -/
def tkE (l : List U8) : Nat := if l.length < 2 then 11 else if 200 < lenU l then 2 else if l.length < lenU l + 6 then 11 else if sameU (frameU (midU l)) (l.take (lenU l + 6)) then 0 else 2
def tkL (l : List U8) : List U8 := if tkE l = 0 then midU l else []
def tkN (l : List U8) : Nat := if tkE l = 0 then lenU l + 6 else 0
def tkC (l : List U8) : Nat := if tkE l = 0 then 0 else 1
def tkA (l : List U8) (_ : Nat) : Ans := .rets [.cell (ownL (tkL l) (tkC l)), .cell (.sc (.int .i64 (tkN l : Nat))), .cell (.sc (.int .i64 (tkE l : Nat)))]
def bytesU (l : List U8) : List UInt8 := l.map fun b => UInt8.ofNat b.v.toNat
theorem bytes_mid (l : List U8) {k n : Nat} (h : k + n ≤ l.length) : List.map (fun j => byteF (encL l (k + j) 0)) (List.range n) = bytesU ((l.drop k).take n) := by
  have := strOf_mid l h
  unfold strOf strU at this
  have := congrArg ByteArray.data this
  simpa [bytesU] using this
theorem bytes_all (l : List U8) : List.map (fun j => byteF (encL l j 0)) (List.range l.length) = bytesU l := by
  have := bytes_mid l (k := 0) (n := l.length) (by omega)
  simp only [Nat.zero_add, List.drop_zero, List.take_length] at this
  exact this
theorem bytes_take (l : List U8) {n : Nat} (h : n ≤ l.length) : List.map (fun j => byteF (encL l j 0)) (List.range n) = bytesU (l.take n) := by
  have := bytes_mid l (k := 0) (n := n) (by omega)
  simp only [Nat.zero_add, List.drop_zero] at this
  exact this
theorem bytesU_inj {l m : List U8} (hl : l.all (okA U8) = true) (hm : m.all (okA U8) = true) : bytesU l = bytesU m ↔ l = m := by
  rw [← strU_inj hl hm]
  unfold strU bytesU
  exact ⟨fun h => by rw [h], fun h => by have := congrArg ByteArray.data h; simpa using this⟩
theorem bytesU_beq {l m : List U8} (hl : l.all (okA U8) = true) (hm : m.all (okA U8) = true) : (bytesU l == bytesU m) = sameU l m := by
  rw [Bool.eq_iff_iff, beq_iff_eq, bytesU_inj hl hm, sameU_eq]
theorem take_all {l : List U8} (h : l.all (okA U8) = true) (n : Nat) : (l.take n).all (okA U8) = true := by
  have := mid_all h 0 n
  simpa using this
theorem lenU_lt {l : List U8} (h : l.all (okA U8) = true) (h2 : 2 ≤ l.length) : lenU l < 65536 := by
  have a := all_getU h (i := 0) (by omega)
  have b := all_getU h (i := 1) (by omega)
  unfold lenU; omega
theorem lenU_ref {l : List U8} (h : l.all (okA U8) = true) (h2 : 2 ≤ l.length) : IntKind.wrap .i64 (IntKind.wrap .i64 (IntKind.wrap .i64 (l.getD 0 Enc.dflt).v * 256) + IntKind.wrap .i64 (l.getD 1 Enc.dflt).v) = (lenU l : Int) := by
  have a := all_getU h (i := 0) (by omega)
  have b := all_getU h (i := 1) (by omega)
  unfold lenU
  rw [w64 (x := (l.getD 0 Enc.dflt).v) (by omega) (by omega), w64 (x := (l.getD 1 Enc.dflt).v) (by omega) (by omega), w64 (x := (l.getD 0 Enc.dflt).v * 256) (by omega) (by omega), w64 (by omega) (by omega)]
  omega
theorem or_disj {a b : Nat} (ha : a < 256) (hb : b < 256) : (BitVec.ofInt 64 ((a : Int) * 256) ||| BitVec.ofInt 64 (b : Int)).toNat = a * 256 + b := by
  have h1 : (BitVec.ofInt 64 ((a : Int) * 256)).toNat = a * 256 := by
    rw [show ((a : Int) * 256) = ((a * 256 : Nat) : Int) by simp, BitVec.ofInt_natCast]
    simp; omega
  have h2 : (BitVec.ofInt 64 (b : Int)).toNat = b := by
    rw [BitVec.ofInt_natCast]
    simp; omega
  rw [BitVec.toNat_or, h1, h2]
  have := Nat.two_pow_add_eq_or_of_lt (i := 8) (b := b) hb a
  rw [show a * 256 = 2 ^ 8 * a by omega]
  exact this.symm
theorem lenU_or {l : List U8} (h : l.all (okA U8) = true) (h2 : 2 ≤ l.length) : IntKind.wrap .i64 (Int.ofNat (BitVec.toNat (BitVec.ofInt 64 (IntKind.wrap .i64 (IntKind.wrap .i64 (l.getD 0 Enc.dflt).v * 256)) ||| BitVec.ofInt 64 (IntKind.wrap .i64 (l.getD 1 Enc.dflt).v)))) = (lenU l : Int) := by
  have a := all_getU h (i := 0) (by omega)
  have b := all_getU h (i := 1) (by omega)
  rw [w64 (x := (l.getD 0 Enc.dflt).v) (by omega) (by omega), w64 (x := (l.getD 1 Enc.dflt).v) (by omega) (by omega), w64 (x := (l.getD 0 Enc.dflt).v * 256) (by omega) (by omega)]
  unfold lenU
  generalize (l.getD 0 Enc.dflt).v = x at *
  generalize (l.getD 1 Enc.dflt).v = y at *
  obtain ⟨x, rfl⟩ := Int.eq_ofNat_of_zero_le a.1
  obtain ⟨y, rfl⟩ := Int.eq_ofNat_of_zero_le b.1
  rw [or_disj (by omega) (by omega), Int.toNat_natCast, Int.toNat_natCast]
  exact w64 (by rw [Int.ofNat_eq_natCast]; omega) (by rw [Int.ofNat_eq_natCast]; omega)
theorem midU_len {l : List U8} (h : 2 + lenU l ≤ l.length) : (midU l).length = lenU l := mid_len l h
theorem midU_ok {l : List U8} (h : l.all (okA U8) = true) : (midU l).all (okA U8) = true := mid_all h _ _
theorem head_take {l : List U8} (h : l.all (okA U8) = true) (h2 : 2 + lenU l ≤ l.length) : headU (midU l) = l.take (2 + lenU l) := by
  unfold headU
  rw [midU_len h2]
  have a := all_getU h (i := 0) (by omega)
  have b := all_getU h (i := 1) (by omega)
  have hx : byU (lenU l / 256) = l.getD 0 Enc.dflt := u8_ext (by show ((lenU l / 256 % 256 : Nat) : Int) = _; unfold lenU; omega)
  have hy : byU (lenU l) = l.getD 1 Enc.dflt := u8_ext (by show ((lenU l % 256 : Nat) : Int) = _; unfold lenU; omega)
  unfold num2
  rw [hx, hy]
  unfold midU
  generalize lenU l = n at *
  match l, h2 with
  | x :: y :: l, _ =>
    show [x, y] ++ l.take n = _
    rw [show 2 + n = n + 1 + 1 by omega]; rfl
  | [x], h => simp at h; omega
  | [], h => simp at h
theorem take6 {l : List U8} {n : Nat} (h : n + 6 ≤ l.length) : l.take (n + 6) = l.take (2 + n) ++ (l.drop (2 + n)).take 4 := by
  rw [show n + 6 = (2 + n) + 4 by omega, List.take_add]
theorem app_inj_len {a b c d : List U8} (h : a.length = c.length) : a ++ b = c ++ d ↔ a = c ∧ b = d := by
  constructor
  · intro e; exact List.append_inj e h
  · rintro ⟨rfl, rfl⟩; rfl
/-- that a frame is there, by its sum -/
theorem frame_sum {l : List U8} (h : l.all (okA U8) = true) (h6 : lenU l + 6 ≤ l.length) : sameU (frameU (midU l)) (l.take (lenU l + 6)) = sameU (num4 (sumU (l.take (2 + lenU l)))) ((l.drop (2 + lenU l)).take 4) := by
  rw [Bool.eq_iff_iff, sameU_eq, sameU_eq, take6 h6]
  unfold frameU
  rw [head_take h (by omega), app_inj_len rfl]
  exact ⟨fun h => h.2, fun h => ⟨rfl, h⟩⟩
theorem take_leaf {l : List U8} {m : List (Option AObj)} {k n c0 : Nat} {e : Nat → Nat → Td} {x y : Int} (h0 : tkE l = 0) (hR : RowU e n (midU l)) (hk : m[k]? = some (some (.row .mine 1 0 n e))) (hc : n = 0 → c0 = 0) (hx : x = ((lenU l + 6 : Nat) : Int)) (hy : y = 0) :
    ∃ m2, objsR m m2 ∧ ansE (tkA l 0) (.returned (.tuple ⟨[.slice (some ⟨k, 0, some 0⟩) n c0, .int .i64 x, .int .i64 y]⟩)) (mkS m2) := by
  subst hx hy
  have hkl := (List.getElem?_eq_some_iff.1 hk).1
  refine ⟨_, hR.leaf hk, ⟨_, [k], rfl, ⟨[k], [], rfl, ?_, [], [], rfl, ⟨rfl, ?_, rfl⟩, [], [], rfl, ⟨rfl, ?_, rfl⟩, rfl⟩, by simp⟩⟩
  · unfold tkL tkC
    rw [if_pos h0, if_pos h0]
    exact own_at hkl hR.len hc
  · unfold tkN; rw [if_pos h0]
  · rw [h0]; rfl
theorem take_none {l : List U8} {m : List (Option AObj)} {q : Nat} {y : Int} (h0 : tkE l = q) (h1 : q ≠ 0) (hy : y = (q : Int)) :
    ∃ m2, objsR m m2 ∧ ansE (tkA l 0) (.returned (.tuple ⟨[.slice none 0 0, .int .i64 0, .int .i64 y]⟩)) (mkS m2) := by
  subst h0 hy
  refine ⟨_, objsR.refl _, ⟨_, [], rfl, ⟨[], [], rfl, ?_, [], [], rfl, ⟨rfl, ?_, rfl⟩, [], [], rfl, ⟨rfl, rfl, rfl⟩, rfl⟩, by simp⟩⟩
  · unfold tkL tkC
    rw [if_neg h1, if_neg h1]
    exact .inl ⟨rfl, rfl, rfl, rfl⟩
  · unfold tkN; rw [if_neg h1]; rfl
theorem ok1_mid {l : List U8} (hl : l.all (okA U8) = true) {k n c : Nat} (h : k + n ≤ l.length) (hn : n ≤ 1000000) (hc : c ≤ 1) : ok1 U8 (fun l _ => l.all (okA U8)) [Ta.cell (Td.fr 1 n c fun i => encL l (k + i))] = true := by
  show (okT U8 _ && (listT U8 _).all (okA U8)) = true
  rw [okT_mid hl h hn hc, listU_mid l c h, mid_all hl]; rfl
theorem taker_told : ToldW Try.prog 18 (ok1 U8 fun l _ => l.all (okA U8)) (ans1 U8 tkA) := by
  refine told1' fun l c hl hc hok => ⟨toldP, 100, 20, fun _ => 8, fun _ => [], fun _ _ => False, toldP_ok, fun β hβ => ?_⟩
  show lawE _ _ _ _ _ _ _ _ _ _ _ (outK fun r m => ∃ m2, objsR m m2 ∧ ansE (tkA l 0) r (mkS m2))
  rw [vc_taker]
  refine br_of (fun q => take_none (q := 11) (by simp at q; unfold tkE; rw [if_pos (by omega)]) (by omega) rfl) (fun q => ?_)
  have h2 : 2 ≤ l.length := by simp at q; omega
  have n2 : ¬ l.length < 2 := by omega
  have c0 : Nat.blt 0 l.length = true := by simp; omega
  have c1 : Nat.blt 1 l.length = true := by simp; omega
  have W1 := lenU_ref hok h2
  have hlt := lenU_lt hok h2
  simp only [c0, c1, Bool.true_and, need_t, W1]
  refine br_of (fun q1 => take_none (q := 2) (by simp at q1; unfold tkE; rw [if_neg n2, if_pos (by omega)]) (by omega) rfl) (fun q1 => ?_)
  have h200 : ¬ 200 < lenU l := by simp at q1; omega
  have W2 : IntKind.wrap .i64 ((lenU l : Int) + 6) = ((lenU l + 6 : Nat) : Int) := w64 (by omega) (by omega)
  have W3 : IntKind.wrap .i64 (2 + (lenU l : Int)) = ((2 + lenU l : Nat) : Int) := by rw [w64 (by omega) (by omega)]; simp
  simp only [W2, W3]
  refine br_of (fun q2 => take_none (q := 11) (by have q2 := of_decide_eq_true q2; rw [Int.ofNat_eq_natCast] at q2; unfold tkE; rw [if_neg n2, if_neg h200, if_pos (by omega)]) (by omega) rfl) (fun q2 => ?_)
  have h6 : lenU l + 6 ≤ l.length := by
    have q2 := of_decide_eq_false q2
    rw [Int.ofNat_eq_natCast] at q2; omega
  have n6 : ¬ l.length < lenU l + 6 := by omega
  have d1 : decide ((0 : Int) ≤ ((2 + lenU l : Nat) : Int)) = true := decide_eq_true (by omega)
  have d2 : decide ((0 : Int) ≤ ((lenU l + 6 : Nat) : Int)) = true := decide_eq_true (by omega)
  have b1 : Nat.ble (2 + lenU l) l.length = true := Nat.ble_eq_true_of_le (by omega)
  have b2 : Nat.ble 2 (2 + lenU l) = true := Nat.ble_eq_true_of_le (by omega)
  have b3 : Nat.ble (lenU l + 6) l.length = true := Nat.ble_eq_true_of_le h6
  have b4 : Nat.ble (lenU l) 1000000 = true := Nat.ble_eq_true_of_le (by omega)
  have s1 : 2 + lenU l - 2 = lenU l := by omega
  have z1 : Nat.beq l.length 0 = false := beq_false (by omega)
  have o1 := ok1_mid hok (k := 2) (n := lenU l) (c := 0) (by omega) (by omega) (by omega)
  have l1 : listT U8 (Td.fr 1 (lenU l) 0 fun i => encL l (2 + i)) = midU l := listU_mid l 0 (by omega)
  have hml := midU_len (l := l) (by omega)
  have p1 : putL (midU l) = frameU (midU l) := by unfold putL; rw [if_neg (by omega)]
  have hfo := frameU_ok (midU_ok hok)
  have B1 := bytes_all (frameU (midU l))
  have B2 := bytes_take l h6
  have B3 : (bytesU (frameU (midU l)) == bytesU (l.take (lenU l + 6))) = sameU (frameU (midU l)) (l.take (lenU l + 6)) := bytesU_beq hfo (take_all hok _)
  simp only [Int.toNat_natCast, s1, z1, cond_false, o1, l1, p1, d1, d2, b1, b2, b3, b4, Nat.zero_add, Nat.sub_zero, bleS, allB_all, Bool.true_and, need_t, B1, B2, B3]
  refine br_of (fun q3 => take_none (q := 2) (by rw [Bool.not_eq_true'] at q3; unfold tkE; rw [if_neg n2, if_neg h200, if_neg n6, q3]; rfl) (by omega) rfl) (fun q3 => ?_)
  rw [Bool.not_eq_false'] at q3
  refine take_leaf (k := 4) (by unfold tkE; rw [if_neg n2, if_neg h200, if_neg n6, if_pos q3]) ((RowU.enc l).sub (k := 2) (m := lenU l) (by omega)) rfl (fun _ => rfl) rfl rfl
theorem take_told : ToldW Try.prog 22 (ok1 U8 fun l _ => l.all (okA U8)) (ans1 U8 tkA) := by
  refine told1' fun l c hl hc hok => ⟨toldP, 100, 20, fun _ => 8, fun _ => [], fun _ _ => False, toldP_ok, fun β hβ => ?_⟩
  show lawE _ _ _ _ _ _ _ _ _ _ _ (outK fun r m => ∃ m2, objsR m m2 ∧ ansE (tkA l 0) r (mkS m2))
  rw [vc_take]
  refine br_of (fun q => take_none (q := 11) (by simp at q; unfold tkE; rw [if_pos (by omega)]) (by omega) rfl) (fun q => ?_)
  have h2 : 2 ≤ l.length := by simp at q; omega
  have n2 : ¬ l.length < 2 := by omega
  have c0 : Nat.blt 0 l.length = true := by simp; omega
  have c1 : Nat.blt 1 l.length = true := by simp; omega
  have c2 : Nat.ble 2 l.length = true := Nat.ble_eq_true_of_le h2
  have W1 := lenU_or hok h2
  have hlt := lenU_lt hok h2
  simp only [c0, c1, c2, Bool.true_and, need_t, W1]
  refine br_of (fun q1 => take_none (q := 2) (by simp at q1; unfold tkE; rw [if_neg n2, if_pos (by omega)]) (by omega) rfl) (fun q1 => ?_)
  have h200 : ¬ 200 < lenU l := by simp at q1; omega
  have W3 : IntKind.wrap .i64 (2 + (lenU l : Int)) = ((2 + lenU l : Nat) : Int) := by rw [w64 (by omega) (by omega)]; simp
  have W2 : IntKind.wrap .i64 (((2 + lenU l : Nat) : Int) + 4) = ((lenU l + 6 : Nat) : Int) := by rw [w64 (by omega) (by omega)]; omega
  have W4 : IntKind.wrap .i64 (((lenU l + 6 : Nat) : Int) - 4) = ((2 + lenU l : Nat) : Int) := by rw [w64 (by omega) (by omega)]; omega
  simp only [W3, W2, W4]
  refine br_of (fun q2 => take_none (q := 11) (by have q2 := of_decide_eq_true q2; rw [Int.ofNat_eq_natCast] at q2; unfold tkE; rw [if_neg n2, if_neg h200, if_pos (by omega)]) (by omega) rfl) (fun q2 => ?_)
  have h6 : lenU l + 6 ≤ l.length := by
    have q2 := of_decide_eq_false q2
    rw [Int.ofNat_eq_natCast] at q2; omega
  have n6 : ¬ l.length < lenU l + 6 := by omega
  have d1 : decide ((0 : Int) ≤ ((2 + lenU l : Nat) : Int)) = true := decide_eq_true (by omega)
  have d2 : decide ((0 : Int) ≤ ((lenU l + 6 : Nat) : Int)) = true := decide_eq_true (by omega)
  have b1 : Nat.ble (2 + lenU l) l.length = true := Nat.ble_eq_true_of_le (by omega)
  have b2 : Nat.ble 2 (2 + lenU l) = true := Nat.ble_eq_true_of_le (by omega)
  have b3 : Nat.ble (lenU l + 6) l.length = true := Nat.ble_eq_true_of_le h6
  have b5 : Nat.ble (2 + lenU l) (lenU l + 6) = true := Nat.ble_eq_true_of_le (by omega)
  have b0 : ∀ n, Nat.ble 0 n = true := fun n => by simp
  have s1 : 2 + lenU l - 2 = lenU l := by omega
  have s4 : lenU l + 6 - (2 + lenU l) = 4 := by omega
  have z1 : Nat.beq l.length 0 = false := beq_false (by omega)
  have z2 : Nat.beq (lenU l + 6) 0 = false := beq_false (by omega)
  have z3 : Nat.beq (2 + lenU l) 0 = false := beq_false (by omega)
  have o1 : ok1 U8 (fun l _ => l.all (okA U8)) [Ta.cell (Td.fr 1 (2 + lenU l) 0 (encL l))] = true := by
    have := ok1_mid hok (k := 0) (n := 2 + lenU l) (c := 0) (by omega) (by omega) (by omega)
    rw [encZ] at this; exact this
  have l1 : listT U8 (Td.fr 1 (2 + lenU l) 0 (encL l)) = l.take (2 + lenU l) := decL_take l (by omega)
  have l2 : listT U8 (Td.fr 1 4 0 fun i => encL l (2 + lenU l + i)) = (l.drop (2 + lenU l)).take 4 := listU_mid l 0 (by omega)
  have t4 : okT U8 (Td.fr 1 4 0 fun i => encL l (2 + lenU l + i)) = true := okT_mid hok (by omega) (by omega) (by omega)
  have hsum : refSum (natsU (l.take (2 + lenU l))) = sumU (l.take (2 + lenU l)) := rfl
  have s0 : Int.ofNat (sumU (l.take (2 + lenU l))) = ((sumU (l.take (2 + lenU l)) : Nat) : Int) := rfl
  have o3 : ok2 U8 U8 (fun _ _ _ _ => true) [Ta.cell (Td.fr 1 (1 + 1 + 1 + 1) 0 (selT 1 (1 + 1 + 1 + 1) [Td.sc (Value.int IntKind.u8 (byU (sumU (l.take (2 + lenU l)) / 16777216)).v), Td.sc (Value.int IntKind.u8 (byU (sumU (l.take (2 + lenU l)) / 65536)).v), Td.sc (Value.int IntKind.u8 (byU (sumU (l.take (2 + lenU l)) / 256)).v), Td.sc (Value.int IntKind.u8 (byU (sumU (l.take (2 + lenU l)))).v)])), Ta.cell (Td.fr 1 4 0 fun i => encL l (2 + lenU l + i))] = true := by
    show (okT U8 _ && okT U8 _ && true) = true
    exact Bool.and_eq_true_iff.2 ⟨Bool.and_eq_true_iff.2 ⟨(RowU.sel4 (byU (sumU (l.take (2 + lenU l)) / 16777216)).v (byU (sumU (l.take (2 + lenU l)) / 65536)).v (byU (sumU (l.take (2 + lenU l)) / 256)).v (byU (sumU (l.take (2 + lenU l)))).v).okT (num4_ok (sumU (l.take (2 + lenU l)))) (by omega) (by omega), t4⟩, rfl⟩
  have o4 : okC 1 [Ta.cell (Td.fr 1 (lenU l) 0 fun i => encL l (2 + i))] = true := okC_of (by omega) (by omega)
  have hF := frame_sum hok h6
  simp only [Int.toNat_natCast, s1, s4, z1, z2, z3, cond_false, cond_true, d1, d2, b0, b1, b2, b3, b5, Nat.zero_add, Nat.sub_zero, bleS, Bool.true_and, Bool.and_true, need_t, o1, l1, hsum, s0, fd1, fd256, fd65, fd16, l2, o3, o4]
  have hN : sameU (frameU (midU l)) (l.take (lenU l + 6)) = sameU [⟨(byU (sumU (l.take (2 + lenU l)) / 16777216)).v⟩, ⟨(byU (sumU (l.take (2 + lenU l)) / 65536)).v⟩, ⟨(byU (sumU (l.take (2 + lenU l)) / 256)).v⟩, ⟨(byU (sumU (l.take (2 + lenU l)))).v⟩] ((l.drop (2 + lenU l)).take 4) := hF
  refine need_of (Nat.ble_eq_true_of_le (by omega)) ?_
  rw [← hN]
  refine br_of (fun q3 => take_none (q := 2) (by rw [Bool.not_eq_true'] at q3; unfold tkE; rw [if_neg n2, if_neg h200, if_neg n6, q3]; rfl) (by omega) rfl) (fun q3 => ?_)
  rw [Bool.not_eq_false'] at q3
  refine take_leaf (k := 15) (by unfold tkE; rw [if_neg n2, if_neg h200, if_neg n6, if_pos q3]) ((RowU.enc l).sub (k := 2) (m := lenU l) (by omega)) rfl (fun _ => rfl) rfl rfl
def toldQ : Told := (toldP.tree 22 (ok1 U8 fun l _ => l.all (okA U8)) (ans1 U8 tkA)).tree 18 (ok1 U8 fun l _ => l.all (okA U8)) (ans1 U8 tkA)
theorem toldQ_ok : ToldS Try.prog toldQ := Told.tree_ok (Told.tree_ok toldP_ok take_told) taker_told
theorem lU (l : List U8) (c : Nat) : listT U8 (Td.fr 1 l.length c (encL l)) = l := listT_tdL l c
theorem ok1U {l : List U8} {c : Nat} (hok : l.all (okA U8) = true) (hl : l.length ≤ 1000000) (hc : c ≤ 1) : ok1 U8 (fun l _ => l.all (okA U8)) [Ta.cell (Td.fr 1 l.length c (encL l))] = true := (RowU.enc l).ok1 hok hl hc
/-- what a frame tells of how long it is -/
theorem frame_lenU {l m : List U8} (h : l.length ≤ 200) : lenU (frameU l ++ m) = l.length := by
  show (byU (l.length / 256)).v.toNat * 256 + (byU l.length).v.toNat = _
  show ((l.length / 256 % 256 : Nat) : Int).toNat * 256 + ((l.length % 256 : Nat) : Int).toNat = _
  rw [Int.toNat_natCast, Int.toNat_natCast]
  omega
theorem frame_mid {l m : List U8} (h : l.length ≤ 200) : midU (frameU l ++ m) = l := by
  unfold midU
  rw [frame_lenU h]
  show ((num2 l.length ++ l ++ num4 _ ++ m).drop 2).take l.length = l
  rw [List.append_assoc, List.append_assoc]
  show (l ++ (num4 _ ++ m)).take l.length = l
  rw [List.take_append_of_le_length (Nat.le_refl _), List.take_length]
theorem frame_inj {l m n : List U8} (hl : l.length ≤ 200) (hm : m.length ≤ 200) (h : frameU m ++ n = frameU l) : l = m := by
  have h1 := frame_mid (m := n) hm
  rw [h] at h1
  have h2 := frame_mid (m := []) hl
  rw [List.append_nil] at h2
  rw [h2] at h1; exact h1
end Go.Proofs.Ytdmagcdkklacdaa.Ev

/-! A loop of which a round may end with a panic. -/
set_option linter.unusedVariables false
set_option linter.unusedSimpArgs false
namespace Go.Proofs.Ytdmagcdkklacdaa.Ev
open Go Go.RowKit

/-- what is owed of a round that may panic -/
def NnP (β : Bs) {α : Type} (I : α → Prop) (m : α → Nat) (F : α → AFr) (S : α → ASt) (p : α) (K : Kt) : Kt := fun x f st =>
  Nn β I m F S p K x f st ∨ ∃ v, x = .panic v ∧ ground 3 v = true ∧ ∃ f1 st1, Seen β f st f1 st1 ∧ K (.panic v) f1 st1
theorem loop_ruleP {P : Program} {β : Bs} {ex : Nat → Kt → Prop} {b : Nat} {c : Code} {α : Type} (I : α → Prop) (F : α → AFr) (S : α → ASt) (m : α → Nat)
    (h : ∀ p, I p → ∀ K, ex b K → J P β c (F p) (S p) (NnP β I m F S p K)) : ∀ p, I p → LoopJ P β ex b c (F p) (S p) := by
  intro p hp
  refine ⟨fun K hK Q ρ a w hr hpost => ?_⟩
  have fin : ∀ {x : AX} {f' : AFr} {st' : ASt} {ρ' : Rho} {e' : Exit} {a' : Act} {w' : World}, XR ρ' x e' → Rl β ρ' f' st' a' w' →
      ((x ≠ .normal ∧ (∀ v, x ≠ .panic v) ∧ ∃ f1 st1, Seen β f' st' f1 st1 ∧ K x f1 st1) ∨ ∃ v, x = .panic v ∧ ground 3 v = true ∧ ∃ f1 st1, Seen β f' st' f1 st1 ∧ K (.panic v) f1 st1) → x ≠ .normal ∧ Q e' a' w' := by
    intro x f' st' ρ' e' a' w' hxr hr' hx
    rcases hx with ⟨hne, hnp, f1, st1, hsn, hx⟩ | ⟨v, rfl, hg, f1, st1, hsn, hx⟩
    · obtain ⟨ρ2, hr2⟩ := hsn ρ' a' w' hr'
      have hxr2 : XR ρ2 x e' := by cases x with | normal => exact hxr | exit i => exact hxr | ret => exact hxr | panic v => exact absurd rfl (hnp v)
      exact ⟨hne, hpost x f1 st1 ρ2 e' a' w' hx hxr2 hr2⟩
    · obtain ⟨ρ2, hr2⟩ := hsn ρ' a' w' hr'
      refine ⟨by simp, hpost (.panic v) f1 st1 ρ2 e' a' w' hx ?_ hr2⟩
      obtain ⟨v', he', hv'⟩ := hxr
      have := VR.ground 3 hg hv'
      subst this
      exact ⟨v', he', VR.refl 3 hg⟩
  have key : ∀ (k : Nat) (p : α), m p ≤ k → I p → ∀ ρ a w, Rl β ρ (F p) (S p) a w → Code.rounds P c Q (k + 1) a w := by
    intro k
    induction k with
    | zero =>
      intro p hk hp ρ a w hr
      rw [rounds_succ]
      refine h p hp K hK _ ρ a w hr fun x f' st' ρ' e' a' w' hx hxr hr' => ?_
      rcases hx with (⟨rfl, p', _, h2, _⟩ | hx) | hx
      · omega
      · have := fin hxr hr' (.inl hx)
        cases x with
        | normal => exact absurd rfl this.1
        | exit i => cases hxr; exact this.2
        | ret => cases hxr; exact this.2
        | panic v => obtain ⟨v', rfl, _⟩ := hxr; exact this.2
      · have := fin hxr hr' (.inr hx)
        cases x with
        | normal => exact absurd rfl this.1
        | exit i => cases hxr; exact this.2
        | ret => cases hxr; exact this.2
        | panic v => obtain ⟨v', rfl, _⟩ := hxr; exact this.2
    | succ k ih =>
      intro p hk hp ρ a w hr
      rw [rounds_succ]
      refine h p hp K hK _ ρ a w hr fun x f' st' ρ' e' a' w' hx hxr hr' => ?_
      rcases hx with (⟨rfl, p', h1, h2, h3⟩ | hx) | hx
      · cases hxr; obtain ⟨ρ2, hr2⟩ := h3 ρ' a' w' hr'; exact ih p' (by omega) h1 ρ2 a' w' hr2
      · have := fin hxr hr' (.inl hx)
        cases x with
        | normal => exact absurd rfl this.1
        | exit i => cases hxr; exact this.2
        | ret => cases hxr; exact this.2
        | panic v => obtain ⟨v', rfl, _⟩ := hxr; exact this.2
      · have := fin hxr hr' (.inr hx)
        cases x with
        | normal => exact absurd rfl this.1
        | exit i => cases hxr; exact this.2
        | ret => cases hxr; exact this.2
        | panic v => obtain ⟨v', rfl, _⟩ := hxr; exact this.2
  exact wp_loop_rounds _ (key (m p) p (Nat.le_refl _) hp ρ a w hr)
/-- a row of none more -/
theorem Seen.void {β : Bs} {f : AFr} {l : List (Option AObj)} (es : Nat) (e : Nat → Nat → Td) : Seen β f (mkS l) f (mkS (l ++ [some (.row .mine es 0 0 e)])) := by
  intro ρ a w hr
  have hfn : ρ l.length = none := hr.fresh _ (Nat.le_refl _)
  have m := Mv.rowVoid (w' := w) (es := es) (f := e) hr.wr hfn rfl rfl rfl rfl
  have hg : (mkS (l ++ [some (.row .mine es 0 0 e)])).h.get = upd (mkS l).h.get l.length (some (.row .mine es 0 0 e)) := by
    funext k
    rw [mkS_get]
    by_cases hk : k = l.length
    · subst hk; rw [upd_same, List.getElem?_append_right (Nat.le_refl _)]; simp
    · rw [upd_ne _ _ hk, mkS_get]
      rcases Nat.lt_or_ge k l.length with h1 | h1
      · rw [List.getElem?_append_left h1]
      · rw [List.getElem?_eq_none (by simp; omega), List.getElem?_eq_none h1]
  have hlo : LoS (mkS l) (mkS (l ++ [some (.row .mine es 0 0 e)])) := by
    refine ⟨by simp [mkS], Nat.le_refl _, fun x h1 _ => ?_, fun x o' e' => ?_⟩
    · rw [hg]; exact upd_ne _ _ (by have : x < l.length := h1; omega)
    · rw [hg] at e'
      by_cases hx : x = l.length
      · exact .inr (by subst hx; simp [mkS])
      · rw [upd_ne _ _ hx] at e'; exact .inl ⟨o', e'⟩
  have hnx : (mkS (l ++ [some (.row .mine es 0 0 e)])).next = (mkS l).next + 1 := by simp [mkS]
  exact ⟨_, hr.step hlo ⟨hr.fr.size, fun t v ht => by obtain ⟨v', h2, h3⟩ := hr.fr.tmp t v ht; exact ⟨v', h2, h3.mono m.ext⟩, hr.fr.defs.mono m.ext⟩ (by rw [hg, hnx]; exact m)⟩
/-- a cell that holds nothing, as one that holds a row of none -/
theorem ObjR.nilCell {ρ : Rho} {s : Spot} {w : World} {cs : List Value} {ex : Bool} {es j k : Nat} (hj : cs[j]? = some (.slice none 0 0)) (h : ObjR ρ (.cells cs ex es) s w) : ObjR ρ (.cells (cs.set j (nilRow k)) ex es) s w := by
  obtain ⟨h0, h1, h2, C, t, fr, h3, h4, h5, h6, h7⟩ := h
  refine ⟨h0, h1, h2, C, t, fr, h3, h4, h5, by rw [List.length_set]; exact h6, fun i x hx => ?_⟩
  rw [List.getElem?_set] at hx
  by_cases hij : j = i
  · subst hij
    have hl := (List.getElem?_eq_some_iff.1 hj).1
    simp [hl] at hx
    subst hx
    obtain ⟨y, hy, hv⟩ := h7 j _ hj
    cases hv
    exact ⟨_, hy, .sliceN _ _⟩
  · rw [if_neg hij] at hx
    exact h7 i x hx
/-- what has to hold of one round of a loop that may panic -/
def roundP (P : Program) (C : Told) (fuel n : Nat) (β : Bs) (un : Nat → Nat) (cn : Nat → (AFr → ASt → Prop) → AFr → ASt → Prop) (ex : Nat → Kt → Prop) (g : FuncId) (b : Nat) (E : Nat) (lv : AX → List Nat) (f : AFr) (st : ASt) (N : Kt) : Prop :=
  codeJ P (funK P C fuel n) β un cn ex b (loopOf P g b) f st fun x f st => match x with
    | .panic v => cond (ground 3 v) (canonK E (lv (.panic v)) (N (.panic v)) f st) False
    | x => canonK E (lv x) (N x) f st
theorem roundP_ok {P : Program} {C : Told} {fuel n : Nat} (hm : P.follows .mixedOrders = true) (hC : ToldS P C) {β : Bs} {E : Nat} (hE : β.X.length = E) {un : Nat → Nat} {lvs : Nat → List Nat} {ex : Nat → Kt → Prop} {g : FuncId} {b : Nat} {lv : AX → List Nat} {f : AFr} {st : ASt} {N : Kt}
    (h : roundP P C fuel n β un (cnOf E lvs) ex g b E lv f st N) : J P β (loopOf P g b) f st fun x f st => N x f st := by
  have h1 := codeJ_ok (funK_ok P C fuel n) (evFunC_sound hm hC fuel n) hm (cnOf_ok β hE lvs) h
  intro Q ρ a w hr hp
  refine h1 Q ρ a w hr fun x f' st' ρ' e' a' w' hk hx hr' => ?_
  cases x with
  | panic v =>
    cases hg : ground 3 v with
    | false => simp only [hg] at hk; exact hk.elim
    | true =>
      simp only [hg, cond_true] at hk
      obtain ⟨ρ2, f2, st2, k1, k2⟩ := canonK_ok hk hE hr'
      refine hp _ f2 st2 ρ2 e' a' w' k1 ?_ k2
      obtain ⟨v', he, hv⟩ := hx
      have := VR.ground 3 hg hv
      subst this
      exact ⟨v', he, VR.refl 3 hg⟩
  | normal => obtain ⟨ρ2, f2, st2, k1, k2⟩ := canonK_ok hk hE hr'; exact hp _ f2 st2 ρ2 e' a' w' k1 hx k2
  | exit i => obtain ⟨ρ2, f2, st2, k1, k2⟩ := canonK_ok hk hE hr'; exact hp _ f2 st2 ρ2 e' a' w' k1 hx k2
  | ret => obtain ⟨ρ2, f2, st2, k1, k2⟩ := canonK_ok hk hE hr'; exact hp _ f2 st2 ρ2 e' a' w' k1 hx k2
end Go.Proofs.Ytdmagcdkklacdaa.Ev

/-! Loads as data that lie in cells. -/
set_option linter.unusedVariables false
set_option linter.unusedSimpArgs false
namespace Go.Proofs.Ytdmagcdkklacdaa.Ev
open Go Go.Proofs Go.RowKit

structure Ld where
  l : List U8
  c : Nat
def ldE (a : Ld) (_ : Nat) : Td := .fr 1 a.l.length a.c (encL a.l)
instance encLd : Enc Ld where
  es := 1
  enc := ldE
  dec c := ⟨listT U8 (c 0), nilT (c 0)⟩
  ok c := okT U8 (c 0)
  dflt := ⟨[], 1⟩
  good c := goodT U8 (c 0)
  okgood c h := okT_good h
  law c h w F j y hj ht := by
    have : j = 0 := by omega
    subst this
    exact goodT_TR (α := U8) h ht
  back a := by
    obtain ⟨l, c⟩ := a
    show (⟨decL l.length (encL l), c⟩ : Ld) = _
    rw [decL_encL]
  mrg a b w F j y hj := ⟨mrgL_true' (α := U8) (by decide), mrgL_false' (α := U8) (by decide)⟩
theorem ld_eq {a a' : List U8} {c c' : Nat} (h1 : a = a') (h2 : c = c') : (⟨a, c⟩ : Ld) = ⟨a', c'⟩ := by subst h1 h2; rfl
instance : EncM Ld where
  cong c c' h := by
    have h0 : c 0 = c' 0 := h 0 (by show 0 < 1; omega)
    exact ⟨by show (⟨listT U8 (c 0), nilT (c 0)⟩ : Ld) = _; rw [h0]; rfl, by show okT U8 (c 0) = _; rw [h0]; rfl⟩
  mt a b := by
    obtain ⟨l, c⟩ := a
    obtain ⟨p1, p2, p3⟩ := mrgT_t (α := U8) (by decide) l b.l c b.c
    exact ⟨ld_eq p1 p2, p3⟩
  mf a b := by
    obtain ⟨l, c⟩ := b
    obtain ⟨p1, p2, p3⟩ := mrgT_f (α := U8) (by decide) a.l l a.c c
    exact ⟨ld_eq p1 p2, p3⟩
theorem okA_ld {a : Ld} (h1 : a.l.all (okA U8) = true) (h2 : a.l.length ≤ 1000000) (h3 : a.c ≤ 1) : okA Ld a = true := okT_tdL h1 h2 h3
theorem okA_ld_inv {a : Ld} (h : okA Ld a = true) : a.l.all (okA U8) = true ∧ a.l.length ≤ 1000000 ∧ a.c ≤ 1 := by
  have h : okT U8 (tdL a.l a.c) = true := h
  have h1 := okT_len h
  have h2 := okT_all (α := U8) (fun c hc => by have := u8Ok_inv hc; exact (okU_iff _).2 this.2) h
  rw [listT_tdL] at h1 h2
  exact ⟨h2, h1.1, h1.2⟩
def shLd (_ : Nat) : Sh := .sl 1 shU
theorem goodLd (c : Nat → Td) (h : ∀ j, j < 1 → ShOk (shLd j) (c j)) : Enc.good Ld c := goodT_sh (α := U8) goodU (h 0 (by omega))
theorem goodLd_all {t : Td} (h : goodT Ld t) : ∀ a ∈ (listT Ld t), a.l.all (okA U8) = true ∧ a.c ≤ 1 := goodT_all (fun c hc => ⟨goodU_all hc, goodT_nil hc⟩) h
theorem esLd : Enc.es Ld = 1 := rfl
theorem lLd (l : List Ld) (c : Nat) : listT Ld (Td.fr 1 l.length c (encL l)) = l := listT_tdL l c
theorem ok1Ld {l : List Ld} {c : Nat} (hok : l.all (okA Ld) = true) (hl : l.length ≤ 1000000) (hc : c ≤ 1) : ok1 Ld (fun l _ => l.all (okA Ld)) [Ta.cell (Td.fr 1 l.length c (encL l))] = true := by
  show (okT Ld (tdL l c) && (listT Ld (tdL l c)).all (okA Ld)) = true
  rw [okT_tdL hok hl hc, listT_tdL, hok]; rfl
/-! ### which frames come of bytes -/
def fdF : Nat → List U8 → List Ld × List U8 × Nat
  | 0, l => ([], l, tkE l)
  | n + 1, l => if tkE l = 0 then (⟨midU l, 0⟩ :: (fdF n (l.drop (lenU l + 6))).1, (fdF n (l.drop (lenU l + 6))).2) else ([], l, tkE l)
def fd (l : List U8) : List Ld × List U8 × Nat := fdF l.length l
theorem tkE_len {l : List U8} (h : tkE l = 0) : lenU l + 6 ≤ l.length ∧ lenU l ≤ 200 ∧ 2 ≤ l.length := by
  unfold tkE at h
  by_cases h1 : l.length < 2
  · rw [if_pos h1] at h; omega
  · rw [if_neg h1] at h
    by_cases h2 : 200 < lenU l
    · rw [if_pos h2] at h; omega
    · rw [if_neg h2] at h
      by_cases h3 : l.length < lenU l + 6
      · rw [if_pos h3] at h; omega
      · omega
theorem fdF_any : ∀ (n : Nat) (l : List U8), l.length ≤ n → fdF n l = fd l := by
  intro n
  induction n using Nat.strongRecOn with
  | _ n ih =>
    intro l h
    unfold fd
    by_cases h0 : tkE l = 0
    · have h6 := tkE_len h0
      cases n with
      | zero => omega
      | succ n =>
        cases hm : l.length with
        | zero => omega
        | succ m =>
          simp only [fdF, if_pos h0]
          have hd : (l.drop (lenU l + 6)).length ≤ m := by simp; omega
          rw [ih n (by omega) _ (by omega), ih m (by omega) _ hd]
    · cases n with
      | zero => cases hm : l.length with
        | zero => rfl
        | succ m => simp only [fdF, if_neg h0]
      | succ n => cases hm : l.length with
        | zero => simp only [fdF, if_neg h0]
        | succ m => simp only [fdF, if_neg h0]
theorem fd_go {l : List U8} (h : tkE l = 0) : fd l = (⟨midU l, 0⟩ :: (fd (l.drop (lenU l + 6))).1, (fd (l.drop (lenU l + 6))).2) := by
  have h6 := tkE_len h
  rw [← fdF_any (l.length + 1) l (by omega)]
  simp only [fdF, if_pos h]
  rw [fdF_any _ _ (by simp)]
theorem fd_stop {l : List U8} (h : tkE l ≠ 0) : fd l = ([], l, tkE l) := by
  rw [← fdF_any (l.length + 1) l (by omega)]
  simp only [fdF, if_neg h]
theorem tkE_cases (l : List U8) : tkE l = 0 ∨ tkE l = 2 ∨ tkE l = 11 := by
  unfold tkE
  split
  · exact .inr (.inr rfl)
  · split
    · exact .inr (.inl rfl)
    · split
      · exact .inr (.inr rfl)
      · split
        · exact .inl rfl
        · exact .inr (.inl rfl)
/-- all that holds of what comes -/
theorem fd_ind (P : List U8 → Prop) (h0 : ∀ l, tkE l ≠ 0 → P l) (h1 : ∀ l, tkE l = 0 → P (l.drop (lenU l + 6)) → P l) : ∀ l, P l := by
  suffices h : ∀ n (l : List U8), l.length ≤ n → P l from fun l => h _ l (Nat.le_refl _)
  intro n
  induction n with
  | zero =>
    intro l h
    refine h0 l fun h2 => ?_
    have := tkE_len h2; omega
  | succ n ih =>
    intro l h
    by_cases h2 : tkE l = 0
    · have := tkE_len h2
      exact h1 l h2 (ih _ (by simp; omega))
    · exact h0 l h2
theorem drop_allU {l : List U8} (h : l.all (okA U8) = true) (n : Nat) : (l.drop n).all (okA U8) = true := by
  rw [List.all_eq_true] at h ⊢
  exact fun x hx => h x (List.mem_of_mem_drop hx)
def FdOk (l : List U8) : Prop := l.all (okA U8) = true → (fd l).1.all (okA Ld) = true ∧ (fd l).2.1.all (okA U8) = true ∧ (fd l).2.1.length ≤ l.length ∧ (fd l).1.length ≤ l.length ∧ ((fd l).2.2 = 2 ∨ (fd l).2.2 = 11) ∧ ((fd l).2.2 = 11 → (fd l).2.1.length ≤ 205)
theorem fd_ok : ∀ (l : List U8), FdOk l := by
  refine fd_ind FdOk (fun l h => ?_) (fun l h ih => ?_) <;> unfold FdOk <;> intro hl
  · rw [fd_stop h]
    refine ⟨rfl, hl, Nat.le_refl _, Nat.zero_le _, (tkE_cases l).resolve_left h, fun h2 => ?_⟩
    have h2 : tkE l = 11 := h2
    show l.length ≤ 205
    unfold tkE at h2
    split at h2
    · omega
    · split at h2
      · omega
      · split at h2
        · omega
        · split at h2 <;> omega
  · have h6 := tkE_len h
    obtain ⟨i1, i2, i3, i4, i5, i6⟩ := ih (drop_allU hl _)
    rw [fd_go h]
    have hm := midU_len (l := l) (by omega)
    refine ⟨?_, i2, ?_, ?_, i5, i6⟩
    · show (List.all ((⟨midU l, 0⟩ : Ld) :: (fd (l.drop (lenU l + 6))).1) (okA Ld)) = true
      rw [List.all_cons, i1, okA_ld (midU_ok hl) (by show (midU l).length ≤ _; omega) (by show 0 ≤ 1; omega)]; rfl
    · refine Nat.le_trans i3 ?_; simp
    · simp at i4 ⊢; omega
end Go.Proofs.Ytdmagcdkklacdaa.Ev
