/-
  What the rest of sessions' functions are told over.
-/
import Derived.Test.YtachglcffimmeaaGreatQ19
import Derived.Test.YtachglcffimmeaaGreatQ20
set_option linter.unusedVariables false
set_option maxRecDepth 1000000
set_option linter.unusedSimpArgs false
namespace Go.Proofs.YtachglcffimmeaaGreat.Ev
open Go Go.Proofs Go.RowKit
def wtCs (w : Wt) (qu : Value) : List Value := [.int .i64 w.nu, .int .i64 w.ad, .int .i64 w.ev, .int .i64 w.du, .int .i64 w.bd.k, .int .i64 w.bd.i, .float .f64 w.bd.f, .int .i64 w.mo, .bool w.ha, .bool w.lo, .int .i64 w.la.k, .int .i64 w.la.i, .float .f64 w.la.f, .int .i64 w.sq, qu]
def wtV (w : Wt) (i : Nat) : Value := .agg ⟨wtCs w (.slice (some ⟨i, 0, some 0⟩) w.qu.length w.cqu)⟩
def wtO (w : Wt) (i : Nat) : AObj := .cells (wtCs w (.slice (some ⟨i, 0, some 0⟩) w.qu.length w.cqu)) true 0
def ssL (s : Ss) (i : Nat) : List Value := ssCs s (.slice (some ⟨i, 0, some 0⟩) s.fb.length s.cfb) (.slice (some ⟨i + 1, 0, some 0⟩) s.ins.length s.cins) (.slice (some ⟨i + 2, 0, some 0⟩) s.out.length s.cout) (.slice (some ⟨i + 3, 0, some 0⟩) s.sub.length s.csub)
def ssV (s : Ss) (i : Nat) : Value := .agg ⟨ssL s i⟩
def ssO (s : Ss) (i : Nat) : AObj := .cells (ssL s i) true 0
def ssR (k : Rk) (s : Ss) : List (Option AObj) := [some (rowO k s.fb), some (rowO k s.ins), some (rowO k s.out), some (rowO k s.sub)]
theorem getD_setA {α : Type} [Enc α] (A : List α) (i0 k : Nat) (a : α) (hi : i0 < A.length) : (A.set i0 a).getD k Enc.dflt = if k = i0 then a else A.getD k Enc.dflt := by
 simp only [List.getD, List.getElem?_set]
 by_cases h : i0 = k
 ·subst h; simp [hi]
 ·rw [if_neg h, if_neg (Ne.symm h)]
theorem putT_enc {α : Type} [Enc α] [EncQ α] {A : List α} {i0 off : Nat} {ts : List Td} {g : Nat → Nat → Td} {a : α} (hi : i0 < A.length) (hg : ∀ k j, j < Enc.es α → g k j = encL A k j) (h1 : ∀ j, off ≤ j → j < off + ts.length → j < Enc.es α → nthT ts (j - off) = Enc.enc a j) (h2 : ∀ j, j < Enc.es α → ¬(off ≤ j ∧ j < off + ts.length) → Enc.enc a j = Enc.enc (A.getD i0 Enc.dflt) j) :
  ∀ k j, j < Enc.es α → putT i0 off ts g k j = encL (A.set i0 a) k j := by
 intro k j hj
 show putT i0 off ts g k j = Enc.enc ((A.set i0 a).getD k Enc.dflt) j
 have hgk : g k j = Enc.enc (A.getD k Enc.dflt) j := hg k j hj
 rw [getD_setA _ _ _ _ hi]
 unfold putT
 by_cases hr : off ≤ j ∧ j < off + ts.length
 ·have c1 : (Nat.ble off j && Nat.blt j (off + ts.length)) = true := by simp [hr.1, hr.2]
  rw [c1, cond_true, h1 j hr.1 hr.2 hj, hgk, EncQ.mrg]
  by_cases hk : k = i0
  ·subst hk; rw [if_pos rfl, Nat.beq_refl]; rfl
  ·rw [if_neg hk, beq_false hk]; rfl
 ·have c1 : (Nat.ble off j && Nat.blt j (off + ts.length)) = false := by
   rw [Bool.and_eq_false_iff]
   by_cases h : off ≤ j
   ·right; exact blt_false fun h' => hr ⟨h, h'⟩
   ·left
    cases hq : Nat.ble off j with
    | false => rfl
    | true => exact absurd (Nat.le_of_ble_eq_true hq) h
  rw [c1, cond_false, hgk]
  by_cases hk : k = i0
  ·subst hk; rw [if_pos rfl]; exact (h2 j hj hr).symm
  ·rw [if_neg hk]
theorem set_self {α : Type} [Enc α] (A : List α) (i : Nat) : A.set i (A.getD i Enc.dflt) = A := by
 apply List.ext_getElem?
 intro k
 rw [List.getElem?_set]
 by_cases h : i = k
 ·subst h
  by_cases hi : i < A.length
  ·simp [hi, List.getD]
  ·simp [hi]
 ·rw [if_neg h]
theorem dE_ {α : Type} [Enc α] [EncQ α] (x : α) : (Enc.dec (nthT (encTs x)) : α) = x ∧ Enc.ok α (nthT (encTs x)) = okA α x := by
 refine EncQ.cong _ x fun j hj => ?_
 refine nthT_eq _ j _ ?_
 simp [encTs, List.getElem?_map, List.getElem?_range hj]
theorem eL_ {α : Type} [Enc α] (x : α) : (encTs x).length = Enc.es α := by simp [encTs]
theorem okA1_sc {α : Type} [Enc α] [EncO α] [EncQ α] {p : Sc α → Bool} (x : α) : okA1 (Sc α) p [.agg (encTs x)] = (okA α x && p ⟨x⟩) := by
 show ((Nat.beq (encTs x).length (Enc.es α) && Enc.ok α (nthT (encTs x))) && p ⟨Enc.dec (nthT (encTs x))⟩) = _
 rw [eL_, Nat.beq_refl, (dE_ x).1, (dE_ x).2]; rfl
theorem okA2_sc {α β : Type} [Enc α] [EncO α] [EncQ α] [Enc β] [EncO β] [EncQ β] {p : Sc α → Sc β → Bool} (x : α) (y : β) : okA2 (Sc α) (Sc β) p [.agg (encTs x), .agg (encTs y)] = (okA α x && okA β y && p ⟨x⟩ ⟨y⟩) := by
 show ((Nat.beq (encTs x).length (Enc.es α) && Enc.ok α (nthT (encTs x))) && (Nat.beq (encTs y).length (Enc.es β) && Enc.ok β (nthT (encTs y))) && p ⟨Enc.dec (nthT (encTs x))⟩ ⟨Enc.dec (nthT (encTs y))⟩) = _
 rw [eL_, eL_, Nat.beq_refl, Nat.beq_refl, (dE_ x).1, (dE_ x).2, (dE_ y).1, (dE_ y).2]; rfl
theorem okA1_rw {α : Type} [Enc α] [EncO α] {p : Rw α → Bool} {l : List α} {c : Nat} (h : l.all (okA α) = true) (hl : l.length ≤ 1000000) (hc : c ≤ 1) (hp : p ⟨l, c⟩ = true) : okA1 (Rw α) p [.cell (tdL l c)] = true := by
 show (okT α (tdL l c) && p ⟨listT α (tdL l c), nilT (tdL l c)⟩) = true
 rw [lT_, okT_tdL h hl hc]
 exact hp
theorem raE_L {α : Type} [Enc α] {st : ASt} {k c c0 : Nat} (L : List α) (hg : st.h.get k = some (.row .mine (Enc.es α) 0 L.length (encL L))) (hc : L.length = 0 → c0 = c) : raE st (.own (Enc.es α) L.length c (encL L)) (.slice (some ⟨k, 0, some 0⟩) L.length c0) [k] := raE_row hg hc (Nat.le_refl _) (by omega) (fun i _ j _ => by rw [Nat.zero_add])
theorem all_loop {P : Program} {β : Bs} {ex : Nat → Kt → Prop} {b : Nat} {c : Code} {N : Nat} {F : Nat → AFr} {S : ASt} {Fr : AFr} {Sr : ASt} {p : Nat → Bool}
  (hex : ∀ K, ex b K → ((List.range N).all p = false → K .ret Fr Sr) ∧ ((List.range N).all p = true → K (.exit b) (F N) S))
  (hr : ∀ (k : Nat) (Nx : Kt), k ≤ N → (k < N → p k = false → Nx .ret Fr Sr) → (k < N → p k = true → Nx .normal (F (k + 1)) S) → (k = N → Nx (.exit b) (F N) S) → J P β c (F k) S Nx) : LoopJ P β ex b c (F 0) S := by
 refine loop_rule (fun k : Nat => k ≤ N ∧ ∀ j, j < k → p j = true) F (fun _ => S) (fun k => N - k) (fun k hI K hK => ?_) 0 ⟨Nat.zero_le _, fun j hj => by omega⟩
 obtain ⟨hK1, hK2⟩ := hex K hK
 obtain ⟨hk, hI⟩ := hI
 refine hr k _ hk (fun hlt hp => .inr ⟨by simp, by simp, Fr, Sr, Seen.refl _ _ _, hK1 ?_⟩) (fun hlt hp => .inl ⟨rfl, k + 1, ⟨hlt, fun j hj => ?_⟩, by omega, Seen.refl _ _ _⟩) (fun he => .inr ⟨by simp, by simp, F N, S, Seen.refl _ _ _, hK2 ?_⟩)
 ·rw [Bool.eq_false_iff]
  intro h
  rw [List.all_eq_true] at h
  rw [h k (List.mem_range.2 hlt)] at hp
  cases hp
 ·by_cases hjk : j = k
  ·subst hjk; exact hp
  ·exact hI j (by omega)
 ·rw [List.all_eq_true]
  intro j hj
  exact hI j (by have := List.mem_range.1 hj; omega)
theorem cnt_loop {P : Program} {β : Bs} {ex : Nat → Kt → Prop} {b : Nat} {c : Code} {N : Nat} {F : Nat → AFr} {S : Nat → ASt}
  (hex : ∀ K, ex b K → K (.exit b) (F N) (S N))
  (hr : ∀ (k : Nat) (Nx : Kt), k ≤ N → (k < N → ∀ f1 st1, Seen β f1 st1 (F (k + 1)) (S (k + 1)) → Nx .normal f1 st1) → (k = N → Nx (.exit b) (F N) (S N)) → J P β c (F k) (S k) Nx) : LoopJ P β ex b c (F 0) (S 0) := by
 refine loop_rule (fun k : Nat => k ≤ N) F S (fun k => N - k) (fun k hk K hK => ?_) 0 (Nat.zero_le _)
 exact hr k _ hk (fun hlt f1 st1 hs => .inl ⟨rfl, k + 1, hlt, by omega, hs⟩) (fun he => .inr ⟨by simp, by simp, F N, S N, Seen.refl _ _ _, hex K hK⟩)
def rdO (i n c : Nat) (q : Bool) : AObj := .cells [.slice (some ⟨1, 0, some i⟩) n c, .bool q] true 0
def viR (L : List U8) (i n c : Nat) (q : Bool) : List (Option AObj) := [some (rdO i n c q), some (rowO .look L)]
theorem vc_rn1 (L : List U8) (i n c : Nat) (q : Bool) (β : Bs) (K : AE → List (Option AObj) → Prop) : lawE Tryz.prog toldM6 100 20 β (fun _ => 9) (cnOf 2 fun _ => []) (fun _ _ => False) 63 [.pointer (some ⟨0, 0, none⟩), .int .i64 1] (mkS (viR L i n c q)) (outC 2 K) =
 (fun (z1 : AObj) => ((fun (z0 : Prop) => (br q z0 (br (decide ((1 : Int) > Int.ofNat n)) z0 (need (Nat.ble 1 n) (need (Nat.ble 1 n) (need (Nat.ble 0 (i + 0 + 0) && Nat.blt (i + 0 + 0) L.length) (K (.returned (.int .i64 (IntKind.wrap .i64 (Int.ofNat (BitVec.toNat (BitVec.ofInt 64 (0 : Int) ||| BitVec.ofInt 64 (IntKind.wrap .i64 (U8.v (List.getD L (i + 0 + 0) Enc.dflt))))))))) [some (.cells [.slice (some (Addr.mk 1 0 (some (i + 1)))) (n - 1) (bif Nat.beq n 0 then c else 0), .bool q] true 0), some z1]))))))) (K (.returned (.int .i64 (0 : Int))) [some (.cells [.slice none 0 0, .bool true] true 0), some z1]))) (.row .look 1 0 L.length (encL L)) := by kernel_rfl
theorem vc_rn2 (L : List U8) (i n c : Nat) (q : Bool) (β : Bs) (K : AE → List (Option AObj) → Prop) : lawE Tryz.prog toldM6 100 20 β (fun _ => 9) (cnOf 2 fun _ => []) (fun _ _ => False) 63 [.pointer (some ⟨0, 0, none⟩), .int .i64 2] (mkS (viR L i n c q)) (outC 2 K) =
 (fun (z2 : Nat) => ((fun (z1 : AObj) => ((fun (z0 : Prop) => (br q z0 (br (decide ((2 : Int) > Int.ofNat n)) z0 (need (Nat.ble 2 n) (need (Nat.ble 2 n) (need (Nat.ble 0 (i + 0 + 0) && Nat.blt (i + 0 + 0) z2) (need (Nat.ble 0 (i + 0 + 1) && Nat.blt (i + 0 + 1) z2) (K (.returned (.int .i64 (IntKind.wrap .i64 (Int.ofNat (BitVec.toNat (BitVec.ofInt 64 (IntKind.wrap .i64 (IntKind.wrap .i64 (Int.ofNat (BitVec.toNat (BitVec.ofInt 64 (0 : Int) ||| BitVec.ofInt 64 (IntKind.wrap .i64 (U8.v (List.getD L (i + 0 + 0) Enc.dflt)))))) * (256 : Int))) ||| BitVec.ofInt 64 (IntKind.wrap .i64 (U8.v (List.getD L (i + 0 + 1) Enc.dflt))))))))) [some (.cells [.slice (some (Addr.mk 1 0 (some (i + 2)))) (n - 2) (bif Nat.beq n 0 then c else 0), .bool q] true 0), some z1])))))))) (K (.returned (.int .i64 (0 : Int))) [some (.cells [.slice none 0 0, .bool true] true 0), some z1]))) (.row .look 1 0 z2 (encL L)))) L.length := by kernel_rfl
theorem vc_rn4 (L : List U8) (i n c : Nat) (q : Bool) (β : Bs) (K : AE → List (Option AObj) → Prop) : lawE Tryz.prog toldM6 100 20 β (fun _ => 9) (cnOf 2 fun _ => []) (fun _ _ => False) 63 [.pointer (some ⟨0, 0, none⟩), .int .i64 4] (mkS (viR L i n c q)) (outC 2 K) =
 (fun (z1 : Nat) => ((fun (z2 : AObj) => ((fun (z0 : Prop) => (br q z0 (br (decide ((4 : Int) > Int.ofNat n)) z0 (need (Nat.ble 4 n) (need (Nat.ble 4 n) (need (Nat.ble 0 (i + 0 + 0) && Nat.blt (i + 0 + 0) z1) (need (Nat.ble 0 (i + 0 + 1) && Nat.blt (i + 0 + 1) z1) (need (Nat.ble 0 (i + 0 + 2) && Nat.blt (i + 0 + 2) z1) (need (Nat.ble 0 (i + 0 + 3) && Nat.blt (i + 0 + 3) z1) (K (.returned (.int .i64 (IntKind.wrap .i64 (Int.ofNat (BitVec.toNat (BitVec.ofInt 64 (IntKind.wrap .i64 (IntKind.wrap .i64 (Int.ofNat (BitVec.toNat (BitVec.ofInt 64 (IntKind.wrap .i64 (IntKind.wrap .i64 (Int.ofNat (BitVec.toNat (BitVec.ofInt 64 (IntKind.wrap .i64 (IntKind.wrap .i64 (Int.ofNat (BitVec.toNat (BitVec.ofInt 64 (0 : Int) ||| BitVec.ofInt 64 (IntKind.wrap .i64 (U8.v (List.getD L (i + 0 + 0) Enc.dflt)))))) * (256 : Int))) ||| BitVec.ofInt 64 (IntKind.wrap .i64 (U8.v (List.getD L (i + 0 + 1) Enc.dflt)))))) * (256 : Int))) ||| BitVec.ofInt 64 (IntKind.wrap .i64 (U8.v (List.getD L (i + 0 + 2) Enc.dflt)))))) * (256 : Int))) ||| BitVec.ofInt 64 (IntKind.wrap .i64 (U8.v (List.getD L (i + 0 + 3) Enc.dflt))))))))) [some (.cells [.slice (some (Addr.mk 1 0 (some (i + 4)))) (n - 4) (bif Nat.beq n 0 then c else 0), .bool q] true 0), some z2])))))))))) (K (.returned (.int .i64 (0 : Int))) [some (.cells [.slice none 0 0, .bool true] true 0), some z2]))) (.row .look 1 0 z1 (encL L)))) L.length := by kernel_rfl
theorem vc_rn8 (L : List U8) (i n c : Nat) (q : Bool) (β : Bs) (K : AE → List (Option AObj) → Prop) : lawE Tryz.prog toldM6 100 20 β (fun _ => 9) (cnOf 2 fun _ => []) (fun _ _ => False) 63 [.pointer (some ⟨0, 0, none⟩), .int .i64 8] (mkS (viR L i n c q)) (outC 2 K) =
 (fun (z1 : Nat) => ((fun (z2 : AObj) => ((fun (z0 : Prop) => (br q z0 (br (decide ((8 : Int) > Int.ofNat n)) z0 (need (Nat.ble 8 n) (need (Nat.ble 8 n) (need (Nat.ble 0 (i + 0 + 0) && Nat.blt (i + 0 + 0) z1) (need (Nat.ble 0 (i + 0 + 1) && Nat.blt (i + 0 + 1) z1) (need (Nat.ble 0 (i + 0 + 2) && Nat.blt (i + 0 + 2) z1) (need (Nat.ble 0 (i + 0 + 3) && Nat.blt (i + 0 + 3) z1) (need (Nat.ble 0 (i + 0 + 4) && Nat.blt (i + 0 + 4) z1) (need (Nat.ble 0 (i + 0 + 5) && Nat.blt (i + 0 + 5) z1) (need (Nat.ble 0 (i + 0 + 6) && Nat.blt (i + 0 + 6) z1) (need (Nat.ble 0 (i + 0 + 7) && Nat.blt (i + 0 + 7) z1) (K (.returned (.int .i64 (IntKind.wrap .i64 (Int.ofNat (BitVec.toNat (BitVec.ofInt 64 (IntKind.wrap .i64 (IntKind.wrap .i64 (Int.ofNat (BitVec.toNat (BitVec.ofInt 64 (IntKind.wrap .i64 (IntKind.wrap .i64 (Int.ofNat (BitVec.toNat (BitVec.ofInt 64 (IntKind.wrap .i64 (IntKind.wrap .i64 (Int.ofNat (BitVec.toNat (BitVec.ofInt 64 (IntKind.wrap .i64 (IntKind.wrap .i64 (Int.ofNat (BitVec.toNat (BitVec.ofInt 64 (IntKind.wrap .i64 (IntKind.wrap .i64 (Int.ofNat (BitVec.toNat (BitVec.ofInt 64 (IntKind.wrap .i64 (IntKind.wrap .i64 (Int.ofNat (BitVec.toNat (BitVec.ofInt 64 (IntKind.wrap .i64 (IntKind.wrap .i64 (Int.ofNat (BitVec.toNat (BitVec.ofInt 64 (0 : Int) ||| BitVec.ofInt 64 (IntKind.wrap .i64 (U8.v (List.getD L (i + 0 + 0) Enc.dflt)))))) * (256 : Int))) ||| BitVec.ofInt 64 (IntKind.wrap .i64 (U8.v (List.getD L (i + 0 + 1) Enc.dflt)))))) * (256 : Int))) ||| BitVec.ofInt 64 (IntKind.wrap .i64 (U8.v (List.getD L (i + 0 + 2) Enc.dflt)))))) * (256 : Int))) ||| BitVec.ofInt 64 (IntKind.wrap .i64 (U8.v (List.getD L (i + 0 + 3) Enc.dflt)))))) * (256 : Int))) ||| BitVec.ofInt 64 (IntKind.wrap .i64 (U8.v (List.getD L (i + 0 + 4) Enc.dflt)))))) * (256 : Int))) ||| BitVec.ofInt 64 (IntKind.wrap .i64 (U8.v (List.getD L (i + 0 + 5) Enc.dflt)))))) * (256 : Int))) ||| BitVec.ofInt 64 (IntKind.wrap .i64 (U8.v (List.getD L (i + 0 + 6) Enc.dflt)))))) * (256 : Int))) ||| BitVec.ofInt 64 (IntKind.wrap .i64 (U8.v (List.getD L (i + 0 + 7) Enc.dflt))))))))) [some (.cells [.slice (some (Addr.mk 1 0 (some (i + 8)))) (n - 8) (bif Nat.beq n 0 then c else 0), .bool q] true 0), some z2])))))))))))))) (K (.returned (.int .i64 (0 : Int))) [some (.cells [.slice none 0 0, .bool true] true 0), some z2]))) (.row .look 1 0 z1 (encL L)))) L.length := by kernel_rfl
def FMd4 (i k : Int) : AFr := mkF 87 [(2, .pointer (some ⟨1, 0, none⟩)), (3, .pointer (some ⟨2, 0, none⟩)), (4, .pointer (some ⟨3, 0, none⟩)), (7, .int .i64 i), (8, .pointer (some ⟨7, 0, none⟩)), (9, .int .i64 k)]
def SMd3 (l : List U8) (c : Nat) (n se : Int) (ins out : List Ms) (sub : List Wt) : ASt := mkS [some (rowO .look l), some (.cells (ssCs zSs nilV nilV nilV nilV) true 0), some (pkQ l.length c n), some (.cells (ssCs (sSs se) nilV (.slice (some ⟨4, 0, some 0⟩) ins.length 1) (.slice (some ⟨5, 0, some 0⟩) out.length 1) (.slice (some ⟨6, 0, some 0⟩) sub.length 1)) true 0), some (rowO .mine ins), some (rowO .mine out), some (rowO .mine sub)]
def SMd4 (l : List U8) (c : Nat) (n se : Int) (ins out : List Ms) (sub : List Wt) (w : Wt) : ASt := mkS [some (rowO .look l), some (.cells (ssCs zSs nilV nilV nilV nilV) true 0), some (pkQ l.length c n), some (.cells (ssCs (sSs se) nilV (.slice (some ⟨4, 0, some 0⟩) ins.length 1) (.slice (some ⟨5, 0, some 0⟩) out.length 1) (.slice (some ⟨6, 0, some 0⟩) sub.length 1)) true 0), some (rowO .mine ins), some (rowO .mine out), some (rowO .mine sub), some (.cells (wtCs w (.slice (some ⟨8, 0, some 0⟩) w.qu.length w.cqu)) true 0), some (rowO .mine w.qu)]
def lvMd4 : AX → List Nat := fun _ => [2, 3, 4, 7, 8, 9]
def w0 (nu ad ev mo : Int) : Wt := ⟨nu, ad, ev, 0, ⟨0, 0, 0⟩, mo, false, false, ⟨0, 0, 0⟩, 0, [], 1⟩
def w1 (nu ad ev du mo vi : Int) : Wt := ⟨nu, ad, ev, du, ⟨0, 0, 0⟩, mo, true, false, ⟨2, vi, 0⟩, 1, [⟨1, ⟨2, vi, 0⟩, false⟩], 0⟩
def shpD (l : List U8) (c : Nat) (n' se i k' nu ad ev du mo vi : Int) (ins out : List Ms) (sub : List Wt) : AFr × ASt := (FMd4 i k', SMd4 l c n' se ins out sub (w1 nu ad ev du mo vi))
def shpF (l : List U8) (c : Nat) (n' se i k' nu ad ev mo : Int) (ins out : List Ms) (sub : List Wt) : AFr × ASt := (FMd4 i k', SMd4 l c n' se ins out sub (w0 nu ad ev mo))
theorem vc_md_r4n (l : List U8) (c : Nat) (n se i k nu ad ev mo : Int) (ins out : List Ms) (sub : List Wt) (β : Bs) (Nx : Kt) : roundJ Tryz.prog toldM6 100 20 β (fun _ => 0) (cnOf 1 fun _ => [2, 3, 4, 7, 8, 9]) (fun _ _ => False) 7 6 1 lvMd4 (FMd4 i k) (SMd4 l c n se ins out sub (w0 nu ad ev mo)) Nx =
 (fun (z1 z4 z9 z10 z11 : AObj) (z13 : Bool) (z14 : Nat) (z16 z17 : Int) => ((fun (z2 : AFr) (z5 : AObj) (z8 z15 : Int) => ((fun (z3 : Int × Int) (z12 : Bool) => ((fun (z6 : AObj) (z7 : Int) => ((fun (z0 : AObj) => (br (decide (k > (0 : Int))) (need z12 (need z12 (br (decide (IntKind.wrap .i64 z17 < (0 : Int))) (onP Nx .normal (shpF l c (Prod.snd z3) se i z16 nu ad ev mo ins out sub)) (br (decide (ev > (0 : Int))) (need (true && !decide (ev = (0 : Int))) (br z13 (Nx .normal z2 (mkS [some z5, some z4, some z6, some z1, some z9, some z10, some z11, some (.cells [.int .i64 nu, .int .i64 ad, .int .i64 ev, .int .i64 z8, .int .i64 (0 : Int), .int .i64 (0 : Int), .float .f64 0, .int .i64 mo, .bool true, .bool true, .int .i64 (2 : Int), .int .i64 z7, .float .f64 0, .int .i64 (1 : Int), .slice (some ⟨8, 0, some 1⟩) 0 0] true 0), some z0])) (Nx .normal z2 (mkS [some z5, some z4, some z6, some z1, some z9, some z10, some z11, some (.cells [.int .i64 nu, .int .i64 ad, .int .i64 ev, .int .i64 z8, .int .i64 (0 : Int), .int .i64 (0 : Int), .float .f64 0, .int .i64 mo, .bool true, .bool false, .int .i64 (2 : Int), .int .i64 z7, .float .f64 0, .int .i64 (1 : Int), .slice (some ⟨8, 0, some 0⟩) 1 0] true 0), some z0])))) (br z13 (Nx .normal z2 (mkS [some z5, some z4, some z6, some z1, some z9, some z10, some z11, some (.cells [.int .i64 nu, .int .i64 ad, .int .i64 ev, .int .i64 z15, .int .i64 (0 : Int), .int .i64 (0 : Int), .float .f64 0, .int .i64 mo, .bool true, .bool true, .int .i64 (2 : Int), .int .i64 z7, .float .f64 0, .int .i64 (1 : Int), .slice (some ⟨8, 0, some 1⟩) 0 0] true 0), some z0])) (Nx .normal z2 (mkS [some z5, some z4, some z6, some z1, some z9, some z10, some z11, some (.cells [.int .i64 nu, .int .i64 ad, .int .i64 ev, .int .i64 z15, .int .i64 (0 : Int), .int .i64 (0 : Int), .float .f64 0, .int .i64 mo, .bool true, .bool false, .int .i64 (2 : Int), .int .i64 z7, .float .f64 0, .int .i64 (1 : Int), .slice (some ⟨8, 0, some 0⟩) 1 0] true 0), some z0]))))))) (onP Nx (.exit 6) (shpF l c n se i k nu ad ev mo ins out sub)))) (.row .mine 5 0 1 fun j k => mrgT (Nat.blt j (List.length ([] : List Im))) (encL ([] : List Im) (0 + (0 + j)) k) (selT 5 1 [.sc (.int .i64 (IntKind.wrap .i64 ((0 : Int) + (1 : Int)))), .sc (.int .i64 (2 : Int)), .sc (.int .i64 z7), .sc (.float .f64 0), .sc (.bool false)] (j - List.length ([] : List Im)) k)))) (.cells [.slice (some ⟨0, 0, some 0⟩) z14 c, .int .i64 (Prod.snd z3)] true 0) (wrF (2 : Int) (List.getD wholeT (Int.toNat (Prod.fst z3)) (0 : Int))))) (numF (rowL U8 z14 (some z5)) n (13 : Int)) (rowB U8 z14 c (some z5) && List.all (rowL U8 z14 (some z5)) (okA U8) && decide ((0 : Int) ≤ n) && true))) (mkF 87 [(2, .pointer (some ⟨1, 0, none⟩)), (3, .pointer (some ⟨2, 0, none⟩)), (4, .pointer (some ⟨3, 0, none⟩)), (7, .int .i64 i), (8, .pointer (some ⟨7, 0, none⟩)), (9, .int .i64 z16)]) (.row .look 1 0 z14 (encL l)) (IntKind.wrap .i64 ((0 : Int) + IntKind.wrap .i64 (IntKind.wrap .i64 (IntKind.wrap .i64 (Int.tdiv (IntKind.wrap .i64 (IntKind.wrap .i64 z17 - (0 : Int))) ev) + (1 : Int)) * ev))) (IntKind.wrap .i64 z17))) (.cells [.bool true, .int .i64 se, .slice none 0 0, .bool false, .slice (some ⟨4, 0, some 0⟩) ins.length 1, .slice (some ⟨5, 0, some 0⟩) out.length 1, .slice (some ⟨6, 0, some 0⟩) sub.length 1, .int .i64 (0 : Int)] true 0) (.cells [.bool false, .int .i64 (0 : Int), .slice none 0 0, .bool false, .slice none 0 0, .slice none 0 0, .slice none 0 0, .int .i64 (0 : Int)] true 0) (.row .mine 12 0 ins.length (encL ins)) (.row .mine 12 0 out.length (encL out)) (.row .mine 15 0 sub.length (encL sub)) (decide (Int.ofNat (List.length ([] : List Im) + 1) > mo)) l.length (IntKind.wrap .i64 (k - (1 : Int))) ((10 : Int) * k) := by kernel_rfl
theorem vc_md_r4d (l : List U8) (c : Nat) (n se i k nu ad ev du mo vi : Int) (ins out : List Ms) (sub : List Wt) (β : Bs) (Nx : Kt) : roundJ Tryz.prog toldM6 100 20 β (fun _ => 0) (cnOf 1 fun _ => [2, 3, 4, 7, 8, 9]) (fun _ _ => False) 7 6 1 lvMd4 (FMd4 i k) (SMd4 l c n se ins out sub (w1 nu ad ev du mo vi)) Nx =
 (fun (z1 z4 z10 z11 z12 : AObj) (z14 : Vl) (z21 : Addr) (z22 z26 : Int) (z24 : Nat) => ((fun (z2 : AFr) (z6 z18 : AObj) (z7 z17 : Int) (z19 : Bool) (z23 : Nat) => ((fun (z15 : List U8) => ((fun (z16 : Bool) (z25 : Int × Int) => ((fun (z0 : Int) (z3 : AObj) => ((fun (z13 : Bool) (z20 : Int) => ((fun (z5 : List Td) => ((fun (z8 z9 : AObj) => (br (decide (k > (0 : Int))) (need z16 (need z16 (br (decide (IntKind.wrap .i64 z26 < du)) (onP Nx .normal (shpD l c (Prod.snd z25) se i z22 nu ad ev du mo vi ins out sub)) (br (decide (ev > (0 : Int))) (need (true && !decide (ev = (0 : Int))) (br z13 (Nx .normal z2 (mkS [some z6, some z4, some z3, some z1, some z10, some z11, some z12, some (.cells [.int .i64 nu, .int .i64 ad, .int .i64 ev, .int .i64 z7, .int .i64 (0 : Int), .int .i64 (0 : Int), .float .f64 0, .int .i64 mo, .bool true, .bool false, .int .i64 (2 : Int), .int .i64 vi, .float .f64 0, .int .i64 (1 : Int), .slice (some z21) 1 0] true 0), some z18])) (br z19 (Nx .normal z2 (mkS [some z6, some z4, some z3, some z1, some z10, some z11, some z12, some (.cells [.int .i64 nu, .int .i64 ad, .int .i64 ev, .int .i64 z7, .int .i64 (0 : Int), .int .i64 (0 : Int), .float .f64 0, .int .i64 mo, .bool true, .bool false, .int .i64 (2 : Int), .int .i64 z20, .float .f64 0, .int .i64 (2 : Int), .slice (some ⟨8, 0, some 1⟩) 1 0] true 0), some z8])) (Nx .normal z2 (mkS [some z6, some z4, some z3, some z1, some z10, some z11, some z12, some (.cells [.int .i64 nu, .int .i64 ad, .int .i64 ev, .int .i64 z7, .int .i64 (0 : Int), .int .i64 (0 : Int), .float .f64 0, .int .i64 mo, .bool true, .bool false, .int .i64 (2 : Int), .int .i64 z20, .float .f64 0, .int .i64 (2 : Int), .slice (some z21) 2 0] true 0), some z9]))))) (br z13 (Nx .normal z2 (mkS [some z6, some z4, some z3, some z1, some z10, some z11, some z12, some (.cells [.int .i64 nu, .int .i64 ad, .int .i64 ev, .int .i64 z17, .int .i64 (0 : Int), .int .i64 (0 : Int), .float .f64 0, .int .i64 mo, .bool true, .bool false, .int .i64 (2 : Int), .int .i64 vi, .float .f64 0, .int .i64 (1 : Int), .slice (some z21) 1 0] true 0), some z18])) (br z19 (Nx .normal z2 (mkS [some z6, some z4, some z3, some z1, some z10, some z11, some z12, some (.cells [.int .i64 nu, .int .i64 ad, .int .i64 ev, .int .i64 z17, .int .i64 (0 : Int), .int .i64 (0 : Int), .float .f64 0, .int .i64 mo, .bool true, .bool false, .int .i64 (2 : Int), .int .i64 z20, .float .f64 0, .int .i64 (2 : Int), .slice (some ⟨8, 0, some 1⟩) 1 0] true 0), some z8])) (Nx .normal z2 (mkS [some z6, some z4, some z3, some z1, some z10, some z11, some z12, some (.cells [.int .i64 nu, .int .i64 ad, .int .i64 ev, .int .i64 z17, .int .i64 (0 : Int), .int .i64 (0 : Int), .float .f64 0, .int .i64 mo, .bool true, .bool false, .int .i64 (2 : Int), .int .i64 z20, .float .f64 0, .int .i64 (2 : Int), .slice (some z21) 2 0] true 0), some z9])))))))) (onP Nx (.exit 6) (shpD l c n se i k nu ad ev du mo vi ins out sub)))) (.row .mine 5 0 2 (putT 1 4 [.sc (.bool true)] fun j k => mrgT (Nat.blt j z23) (encL [Im.mk (1 : Int) z14 false] (0 + (0 + j)) k) (selT 5 1 z5 (j - List.length [Im.mk (1 : Int) z14 false]) k))) (.row .mine 5 0 2 fun j k => mrgT (Nat.blt j z23) (encL [Im.mk (1 : Int) z14 false] (0 + (0 + j)) k) (selT 5 1 z5 (j - List.length [Im.mk (1 : Int) z14 false]) k)))) [.sc (.int .i64 (IntKind.wrap .i64 ((1 : Int) + (1 : Int)))), .sc (.int .i64 (2 : Int)), .sc (.int .i64 z20), .sc (.float .f64 0), .sc (.bool false)])) (!decide (IntKind.wrap .u64 (IntKind.wrap .u64 (if vi > wrF (2 : Int) z0 then vi else wrF (2 : Int) z0) - IntKind.wrap .u64 (if vi < wrF (2 : Int) z0 then vi else wrF (2 : Int) z0)) > (0 : Int))) (wrF (2 : Int) z0))) (List.getD wholeT (Int.toNat (Prod.fst z25)) (0 : Int)) (.cells [.slice (some ⟨0, 0, some 0⟩) z24 c, .int .i64 (Prod.snd z25)] true 0))) (rowB U8 z24 c (some z6) && List.all z15 (okA U8) && decide ((0 : Int) ≤ n) && true) (numF z15 n (13 : Int)))) (rowL U8 z24 (some z6)))) (mkF 87 [(2, .pointer (some ⟨1, 0, none⟩)), (3, .pointer (some
 ⟨2, 0, none⟩)), (4, .pointer (some ⟨3, 0, none⟩)), (7, .int .i64 i), (8, .pointer (some ⟨7, 0, none⟩)), (9, .int .i64 z22)]) (.row .look 1 0 z24 (encL l)) (.row .mine 5 0 1 fun j => encL [Im.mk (1 : Int) z14 false] (0 + j)) (IntKind.wrap .i64 (du + IntKind.wrap .i64 (IntKind.wrap .i64 (IntKind.wrap .i64 (Int.tdiv (IntKind.wrap .i64 (IntKind.wrap .i64 z26 - du)) ev) + (1 : Int)) * ev))) (IntKind.wrap .i64 z26) (decide (Int.ofNat (List.length [Im.mk (1 : Int) z14 false] + 1) > mo)) (List.length [Im.mk (1 : Int) z14 false]))) (.cells [.bool true, .int .i64 se, .slice none 0 0, .bool false, .slice (some ⟨4, 0, some 0⟩) ins.length 1, .slice (some ⟨5, 0, some 0⟩) out.length 1, .slice (some ⟨6, 0, some 0⟩) sub.length 1, .int .i64 (0 : Int)] true 0) (.cells [.bool false, .int .i64 (0 : Int), .slice none 0 0, .bool false, .slice none 0 0, .slice none 0 0, .slice none 0 0, .int .i64 (0 : Int)] true 0) (.row .mine 12 0 ins.length (encL ins)) (.row .mine 12 0 out.length (encL out)) (.row .mine 15 0 sub.length (encL sub)) (Vl.mk (2 : Int) vi 0) ⟨8, 0, some 0⟩ (IntKind.wrap .i64 (k - (1 : Int))) ((10 : Int) * k) l.length := by kernel_rfl
def dueF (ev t : Int) : Int := cond (decide (ev > 0)) ((t / ev + 1) * ev) t
theorem due_lt {ev t : Int} (he : 0 < ev) (h2 : ev < 1000) (h3 : 0 ≤ t) (h4 : t < 1000) : 0 ≤ t / ev ∧ t / ev < 1000 ∧ t < (t / ev + 1) * ev ∧ (t / ev + 1) * ev ≤ 1001 * 1000 := by
 have hq0 : 0 ≤ t / ev := Int.ediv_nonneg h3 (by omega)
 have hq1 : t / ev ≤ t := Int.ediv_le_self _ h3
 have hlt : t < (t / ev + 1) * ev := Int.lt_ediv_add_one_mul_self t he
 exact ⟨hq0, by omega, hlt, Int.mul_le_mul (by omega) (by omega) (by omega) (by omega)⟩
theorem dueF_gt {ev t t' : Int} (h1 : 0 ≤ ev) (h2 : ev < 1000) (h3 : 0 ≤ t) (h4 : t < 1000) (h5 : t' < t) : t' < dueF ev t := by
 unfold dueF
 cases he : decide (ev > 0) with
 | false => exact h5
 | true =>
  obtain ⟨_, _, h, _⟩ := due_lt (of_decide_eq_true he) h2 h3 h4
  show t' < (t / ev + 1) * ev
  omega
theorem due_eq {ev t : Int} (he : decide (ev > 0) = true) (h2 : ev < 1000) (h3 : 0 ≤ t) (h4 : t < 1000) : IntKind.wrap .i64 (0 + IntKind.wrap .i64 (IntKind.wrap .i64 (IntKind.wrap .i64 (Int.tdiv (IntKind.wrap .i64 (t - 0)) ev) + 1) * ev)) = dueF ev t := by
 have hp : 0 < ev := of_decide_eq_true he
 obtain ⟨k1, k2, k3, k4⟩ := due_lt hp h2 h3 h4
 unfold dueF
 rw [he, cond_true, Int.sub_zero, w64 (x := t) (by omega) (by omega), Int.tdiv_eq_ediv_of_nonneg h3, w64 (x := t / ev) (by omega) (by omega), w64 (x := t / ev + 1) (by omega) (by omega)]
 generalize (t / ev + 1) * ev = q at k3 k4 ⊢
 rw [w64 (x := q) (by omega) (by omega), Int.zero_add, w64 (by omega) (by omega)]
def viK (l : List U8) (n : Int) : Int := wrF 2 (List.getD wholeT (Int.toNat (numF l n 13).1) 0)
def wkL (l : List U8) : Nat → Int → Wt → Wt × Int
 | 0, n, w => (w, n)
 | k + 1, n, w => wkL l k (numF l n 13).2 (cond w.ha w (w1 w.nu w.ad w.ev (dueF w.ev (10 * ((k + 1 : Nat) : Int))) w.mo (viK l n)))
structure PM4 where
 k : Nat
 n : Int
 w : Wt
def IMd4 (l : List U8) (nu ad ev mo : Int) (r : Wt × Int) (p : PM4) : Prop := PkOk l p.n ∧ p.k ≤ 3 ∧ (p.w = w0 nu ad ev mo ∨ ∃ du vi, p.w = w1 nu ad ev du mo vi ∧ 10 * (p.k : Int) < du) ∧ wkL l p.k p.n p.w = r
theorem md_loop4 {l : List U8} {c : Nat} {se i nu ad ev mo : Int} {ins out : List Ms} {sub : List Wt} {β : Bs} (hβ : β.X.length = 1) (hc : c ≤ 1) (h1 : 0 ≤ ev) (h2 : ev < 1000) (hmo : 1 ≤ mo) {ex : Nat → Kt → Prop} {k0 : Nat} {n0 : Int} (hk0 : k0 ≤ 3) (hp : PkOk l n0)
  (hex : ∀ K, ex 6 K → K (.exit 6) (FMd4 i 0) (SMd4 l c (wkL l k0 n0 (w0 nu ad ev mo)).2 se ins out sub (wkL l k0 n0 (w0 nu ad ev mo)).1)) :
  LoopJ Tryz.prog β ex 6 (loopOf Tryz.prog 7 6) (FMd4 i (k0 : Nat)) (SMd4 l c n0 se ins out sub (w0 nu ad ev mo)) := by
 refine loop_rule (IMd4 l nu ad ev mo (wkL l k0 n0 (w0 nu ad ev mo))) (fun p : PM4 => FMd4 i (p.k : Nat)) (fun p : PM4 => SMd4 l c p.n se ins out sub p.w) (fun p : PM4 => p.k) (fun p hI K hK => ?_) ⟨k0, n0, w0 nu ad ev mo⟩ ⟨hp, hk0, .inl rfl, rfl⟩
 have hK := hex K hK
 generalize wkL l k0 n0 (w0 nu ad ev mo) = r at hI hK ⊢
 show J _ β _ _ _ (Nn β (IMd4 l nu ad ev mo r) (fun p : PM4 => p.k) (fun p : PM4 => FMd4 i (p.k : Nat)) (fun p : PM4 => SMd4 l c p.n se ins out sub p.w) p K)
 obtain ⟨k, n, w⟩ := p
 obtain ⟨g1, g2, g3, g4⟩ := hI
 have g1 : PkOk l n := g1
 have g2 : k ≤ 3 := g2
 have g3 : w = w0 nu ad ev mo ∨ ∃ du vi, w = w1 nu ad ev du mo vi ∧ 10 * (k : Int) < du := g3
 have g4 : wkL l k n w = r := g4
 have nok : 0 < k → PkOk l (numF l n 13).2 := fun _ => (nF_ (m := 13) g1 (by omega)).2.2
 refine rJ_ (E := 1) (lvs := fun _ => [2, 3, 4, 7, 8, 9]) (un := fun _ => 0) (fuel := 100) (n := 20) (ex := fun _ _ => False) follows toldM6_ok hβ (lv := lvMd4) ?_
 have hb1 := g1.br hc
 have hb2 := Lr_eq l
 unfold Br at hb1
 unfold Lr at hb2
 rcases g3 with rfl | ⟨du, vi, rfl, hdu⟩
 ·refine (vc_md_r4n l c n se i k nu ad ev mo ins out sub β _).mpr ?_
  try dsimp only
  rw [hb1, hb2, g1.all, g1.d]
  cases k with
  | zero =>
   refine br_of (fun h => by simp at h) (fun _ => ?_)
   have g4 : (w0 nu ad ev mo, n) = r := g4
   subst g4
   exact Nn.exit (Seen.refl _ _ _) hK
  | succ k =>
   have hw : IntKind.wrap .i64 (((k + 1 : Nat) : Int) - 1) = (k : Int) := by rw [w64 (by omega) (by omega)]; omega
   have ht : IntKind.wrap .i64 (10 * ((k + 1 : Nat) : Int)) = 10 * ((k + 1 : Nat) : Int) := w64 (by omega) (by omega)
   have h0 : decide (10 * ((k + 1 : Nat) : Int) < 0) = false := by simp; omega
   have hm : decide (Int.ofNat (List.length ([] : List Im) + 1) > mo) = false := by
    show decide ((1 : Int) > mo) = false
    simp; omega
   have hg4 : wkL l k (numF l n 13).2 (w1 nu ad ev (dueF ev (10 * ((k + 1 : Nat) : Int))) mo (viK l n)) = r := g4
   have fin : ∀ (du : Int), du = dueF ev (10 * ((k + 1 : Nat) : Int)) → ∀ st : ASt, Seen β (FMd4 i (k : Nat)) st (FMd4 i (k : Nat)) (SMd4 l c (numF l n 13).2 se ins out sub (w1 nu ad ev du mo (viK l n))) →
     Nn β (IMd4 l nu ad ev mo r) (fun p : PM4 => p.k) (fun p : PM4 => FMd4 i (p.k : Nat)) (fun p : PM4 => SMd4 l c p.n se ins out sub p.w) ⟨k + 1, n, w0 nu ad ev mo⟩ K .normal (FMd4 i (k : Nat)) st := fun du hdu st hs => by
    subst hdu
    exact Nn.next (I := IMd4 l nu ad ev mo r) (m := fun p : PM4 => p.k) (F := fun p : PM4 => FMd4 i (p.k : Nat)) (S := fun p : PM4 => SMd4 l c p.n se ins out sub p.w) (p := ⟨k + 1, n, w0 nu ad ev mo⟩) ⟨k, (numF l n 13).2, w1 nu ad ev (dueF ev (10 * ((k + 1 : Nat) : Int))) mo (viK l n)⟩ ⟨nok (by omega), by show k ≤ 3; omega, .inr ⟨_, _, rfl, by show 10 * (k : Int) < _; exact dueF_gt h1 h2 (by omega) (by omega) (by omega)⟩, hg4⟩ (Nat.lt_succ_self _) hs
   rw [hw, ht]
   refine br_of (fun _ => ?_) (fun h => by simp at h)
   refine nd_ rfl (nd_ rfl (br_of (fun h => by rw [h0] at h; cases h) (fun _ => br_of (fun he => nd_ ?_ (br_of (fun h => by rw [hm] at h; cases h) (fun _ => ?_))) (fun he => br_of (fun h => by rw [hm] at h; cases h) (fun _ => ?_)))))
   ·have : 0 < ev := of_decide_eq_true he
    simp; omega
   ·rw [due_eq he h2 (by omega) (by omega)]
    refine fin _ rfl _ (Seen.objs rfl fun q o2 h => ?_)
    match q, h with
    | 0, h => cases h; exact ⟨_, rfl, rfl, fun _ _ _ h => h⟩
    | 1, h => cases h; exact ⟨_, rfl, rfl, fun _ _ _ h => h⟩
    | 2, h => cases h; exact ⟨_, rfl, rfl, fun _ _ _ h => h⟩
    | 3, h => cases h; exact ⟨_, rfl, rfl, fun _ _ _ h => h⟩
    | 4, h => cases h; exact ⟨_, rfl, rfl, fun _ _ _ h => h⟩
    | 5, h => cases h; exact ⟨_, rfl, rfl, fun _ _ _ h => h⟩
    | 6, h => cases h; exact ⟨_, rfl, rfl, fun _ _ _ h => h⟩
    | 7, h => cases h; exact ⟨_, rfl, rfl, fun _ _ _ h => h⟩
    | 8, h =>
     cases h
     exact ⟨_, rfl, rfl, fun _ _ _ h => row_app (α := Im) (l := []) (a := ⟨1, ⟨2, viK l n, 0⟩, false⟩) rfl rfl (fun _ _ => rfl) (fun j hj => by
      have hj : j < 5 := hj
      match j, hj with
      | 0, _ => rfl
      | 1, _ => rfl
      | 2, _ => rfl
      | 3, _ => rfl
      | 4, _ => rfl) h⟩
    | _ + 9, h => cases h
   ·have hd : dueF ev (10 * ((k + 1 : Nat) : Int)) = 10 * ((k + 1 : Nat) : Int) := by unfold dueF; rw [he]; rfl
    refine fin _ hd.symm _ (Seen.objs rfl fun q o2 h => ?_)
    match q, h with
    | 0, h => cases h; exact ⟨_, rfl, rfl, fun _ _ _ h => h⟩
    | 1, h => cases h; exact ⟨_, rfl, rfl, fun _ _ _ h => h⟩
    | 2, h => cases h; exact ⟨_, rfl, rfl, fun _ _ _ h => h⟩
    | 3, h => cases h; exact ⟨_, rfl, rfl, fun _ _ _ h => h⟩
    | 4, h => cases h; exact ⟨_, rfl, rfl, fun _ _ _ h => h⟩
    | 5, h => cases h; exact ⟨_, rfl, rfl, fun _ _ _ h => h⟩
    | 6, h => cases h; exact ⟨_, rfl, rfl, fun _ _ _ h => h⟩
    | 7, h => cases h; exact ⟨_, rfl, rfl, fun _ _ _ h => h⟩
    | 8, h =>
     cases h
     exact ⟨_, rfl, rfl, fun _ _ _ h => row_app (α := Im) (l := []) (a := ⟨1, ⟨2, viK l n, 0⟩, false⟩) rfl rfl (fun _ _ => rfl) (fun j hj => by
      have hj : j < 5 := hj
      match j, hj with
      | 0, _ => rfl
      | 1, _ => rfl
      | 2, _ => rfl
      | 3, _ => rfl
      | 4, _ => rfl) h⟩
    | _ + 9, h => cases h
 ·refine (vc_md_r4d l c n se i k nu ad ev du mo vi ins out sub β _).mpr ?_
  try dsimp only
  rw [hb1, hb2, g1.all, g1.d]
  cases k with
  | zero =>
   refine br_of (fun h => by simp at h) (fun _ => ?_)
   have g4 : (w1 nu ad ev du mo vi, n) = r := g4
   subst g4
   exact Nn.exit (Seen.refl _ _ _) hK
  | succ k =>
   have hw : IntKind.wrap .i64 (((k + 1 : Nat) : Int) - 1) = (k : Int) := by rw [w64 (by omega) (by omega)]; omega
   have ht : IntKind.wrap .i64 (10 * ((k + 1 : Nat) : Int)) = 10 * ((k + 1 : Nat) : Int) := w64 (by omega) (by omega)
   have hg4 : wkL l k (numF l n 13).2 (w1 nu ad ev du mo vi) = r := g4
   rw [hw, ht]
   refine br_of (fun _ => ?_) (fun h => by simp at h)
   refine nd_ rfl (nd_ rfl (br_of (fun _ => ?_) (fun h => by simp at h; omega)))
   exact Nn.next (I := IMd4 l nu ad ev mo r) (m := fun p : PM4 => p.k) (F := fun p : PM4 => FMd4 i (p.k : Nat)) (S := fun p : PM4 => SMd4 l c p.n se ins out sub p.w) (p := ⟨k + 1, n, w1 nu ad ev du mo vi⟩) ⟨k, (numF l n 13).2, w1 nu ad ev du mo vi⟩ ⟨nok (by omega), by show k ≤ 3; omega, .inr ⟨_, _, rfl, by show 10 * (k : Int) < _; omega⟩, hg4⟩ (Nat.lt_succ_self _) (Seen.refl _ _ _)
def nuA (l : List U8) (n : Int) : Int × Int := numF l n 9
def nuE (l : List U8) (n : Int) : Int × Int := numF l (nuA l n).2 20
def nuM (l : List U8) (n : Int) : Int × Int := numF l (nuE l n).2 3
def nuK (l : List U8) (n : Int) : Int × Int := numF l (nuM l n).2 4
def nwW (l : List U8) (i n : Int) : Wt := w0 i (nuA l n).1 (nuE l n).1 (1 + (nuM l n).1)
def exMd4 (l : List U8) (c : Nat) (se i : Int) (ins out : List Ms) (sub : List Wt) (n2 : Int) (w : Wt) : Nat → Kt → Prop := fun b K => K (.exit b) (FMd4 i 0) (SMd4 l c n2 se ins out sub w)
def slMd3 (b : Nat) : List Nat := cond (Nat.beq b 6) [2, 3, 4, 7, 8, 9] [2, 3, 4, 7]
theorem vc_md_r3 (l : List U8) (c : Nat) (n se i n2 : Int) (w : Wt) (ins out : List Ms) (sub : List Wt) (β : Bs) (Nx : Kt) : roundJ Tryz.prog toldM6 100 20 β (fun _ => 0) (cnOf 1 slMd3) (exMd4 l c se i ins out sub n2 w) 7 4 1 (fun _ => [2, 3, 4, 7]) (FMd 7 i) (SMd3 l c n se ins out sub) Nx =
 (fun (z1 : AObj) (z7 z9 z11 z17 z18 : Nat) (z10 z14 z15 z16 : Addr) => ((fun (z2 z3 z5 z6 z12 : AObj) => ((fun (z0 : List U8) => ((fun (z13 : Int × Int) => ((fun (z4 : Int × Int) => ((fun (z8 : Int × Int) => ((fun (z19 : Int × Int) => (br (decide (i > (0 : Int))) (need (rowB U8 z7 c (some z3) && List.all z0 (okA U8) && decide ((0 : Int) ≤ n) && true) (need (rowB U8 z7 c (some z3) && List.all z0 (okA U8) && decide ((0 : Int) ≤ Prod.snd z13) && true) (need (rowB U8 z7 c (some z3) && List.all z0 (okA U8) && decide ((0 : Int) ≤ Prod.snd z4) && true) (need (rowB U8 z7 c (some z3) && List.all z0 (okA U8) && decide ((0 : Int) ≤ Prod.snd z8) && true) (LoopJ Tryz.prog β (exMd4 l c se i ins out sub n2 w) 6 (loopOf Tryz.prog 7 6) (mkF 87 [(2, .pointer (some z14)), (3, .pointer (some z15)), (4, .pointer (some z16)), (7, .int .i64 i), (8, .pointer (some ⟨7, 0, none⟩)), (9, .int .i64 (Prod.fst z19))]) (mkS [some z3, some z1, some (.cells [.slice (some z10) z7 c, .int .i64 (Prod.snd z19)] true 0), some z2, some z5, some z6, some z12, some (.cells [.int .i64 i, .int .i64 (Prod.fst z13), .int .i64 (Prod.fst z4), .int .i64 (0 : Int), .int .i64 (0 : Int), .int .i64 (0 : Int), .float .f64 0, .int .i64 (IntKind.wrap .i64 ((1 : Int) + Prod.fst z8)), .bool false, .bool false, .int .i64 (0 : Int), .int .i64 (0 : Int), .float .f64 0, .int .i64 (0 : Int), .slice none 0 0] true 0)]) ∧ need (true && Nat.ble (0 + List.length (Wt.qu w)) (List.length (Wt.qu w))) (need (Nat.ble z11 1000000) (need (true && Nat.ble (0 + List.length sub) z9) (Nx .normal (mkF 87 [(2, .pointer (some z14)), (3, .pointer (some z15)), (4, .pointer (some z16)), (7, .int .i64 (IntKind.wrap .i64 (i - (1 : Int))))]) (mkS [some z3, some z1, some (.cells [.slice (some z10) z7 c, .int .i64 n2] true 0), some (.cells [.bool true, .int .i64 se, .slice none 0 0, .bool false, .slice (some ⟨4, 0, some 0⟩) z17 1, .slice (some ⟨5, 0, some 0⟩) z18 1, .slice (some ⟨6, 0, some 0⟩) z11 1, .int .i64 (0 : Int)] true 0), some z5, some z6, some (.row .mine 15 0 z11 fun j k => mrgT (Nat.blt j z9) (encL sub (0 + j) k) (selT 15 1 [.sc (.int .i64 (Wt.nu w)), .sc (.int .i64 (Wt.ad w)), .sc (.int .i64 (Wt.ev w)), .sc (.int .i64 (Wt.du w)), .sc (.int .i64 (Vl.k (Wt.bd w))), .sc (.int .i64 (Vl.i (Wt.bd w))), .sc (.float .f64 (Vl.f (Wt.bd w))), .sc (.int .i64 (Wt.mo w)), .sc (.bool (Wt.ha w)), .sc (.bool (Wt.lo w)), .sc (.int .i64 (Vl.k (Wt.la w))), .sc (.int .i64 (Vl.i (Wt.la w))), .sc (.float .f64 (Vl.f (Wt.la w))), .sc (.int .i64 (Wt.sq w)), .fr 5 (List.length (Wt.qu w)) (Wt.cqu w) fun i => encL (Wt.qu w) (0 + i)] (j - List.length sub) k))]))))))))) (Nx (.exit 4) (mkF 87 [(2, .pointer (some z14)), (3, .pointer (some z15)), (4, .pointer (some z16)), (7, .int .i64 i)]) (mkS [some z3, some z1, some (.cells [.slice (some z10) z7 c, .int .i64 n] true 0), some z2, some z5, some z6, some z12])))) (numF z0 (Prod.snd z8) (4 : Int)))) (numF z0 (Prod.snd z4) (3 : Int)))) (numF z0 (Prod.snd z13) (20 : Int)))) (numF z0 n (9 : Int)))) (rowL U8 z7 (some z3)))) (.cells [.bool true, .int .i64 se, .slice none 0 0, .bool false, .slice (some ⟨4, 0, some 0⟩) z17 1, .slice (some ⟨5, 0, some 0⟩) z18 1, .slice (some ⟨6, 0, some 0⟩) z9 1, .int .i64 (0 : Int)] true 0) (.row .look 1 0 z7 (encL l)) (.row .mine 12 0 z17 (encL ins)) (.row .mine 12 0 z18 (encL out)) (.row .mine 15 0 z9 (encL sub)))) (.cells [.bool false, .int .i64 (0 : Int), .slice none 0 0, .bool false, .slice none 0 0, .slice none 0 0, .slice none 0 0, .int .i64 (0 : Int)] true 0) l.length sub.length (List.length sub + 1) ins.length out.length ⟨0, 0, some 0⟩ ⟨1, 0, none⟩ ⟨2, 0, none⟩ ⟨3, 0, none⟩ := by kernel_rfl
def suC (l : List U8) (i n : Int) : Wt × Int := wkL l (nuK l n).1.toNat (nuK l n).2 (nwW l i n)
def suL (l : List U8) : Nat → Int → List Wt → List Wt × Int
 | 0, n, sub => (sub, n)
 | r + 1, n, sub => suL l r (suC l ((r + 1 : Nat) : Int) n).2 (sub ++ [(suC l ((r + 1 : Nat) : Int) n).1])
theorem wkL_ok {l : List U8} : ∀ (k : Nat) (n : Int) (w : Wt), PkOk l n → PkOk l (wkL l k n w).2
 | 0, n, w, h => h
 | k + 1, n, w, h => wkL_ok k _ _ (nF_ (m := 13) h (by omega)).2.2
structure PM3 where
 r : Nat
 n : Int
 sub : List Wt
def IMd3 (l : List U8) (q : List Wt × Int) (p : PM3) : Prop := PkOk l p.n ∧ p.sub.length + p.r ≤ 100 ∧ suL l p.r p.n p.sub = q
theorem md_loop3 {l : List U8} {c : Nat} {se : Int} {ins out : List Ms} {β : Bs} (hβ : β.X.length = 1) (hc : c ≤ 1) {ex : Nat → Kt → Prop} {r0 : Nat} {n0 : Int} (hr : r0 ≤ 50) (hp : PkOk l n0)
  (hex : ∀ K, ex 4 K → K (.exit 4) (FMd 7 0) (SMd3 l c (suL l r0 n0 []).2 se ins out (suL l r0 n0 []).1)) :
  LoopJ Tryz.prog β ex 4 (loopOf Tryz.prog 7 4) (FMd 7 (r0 : Nat)) (SMd3 l c n0 se ins out []) := by
 refine loop_rule (IMd3 l (suL l r0 n0 [])) (fun p : PM3 => FMd 7 (p.r : Nat)) (fun p : PM3 => SMd3 l c p.n se ins out p.sub) (fun p : PM3 => p.r) (fun p hI K hK => ?_) ⟨r0, n0, []⟩ ⟨hp, by show 0 + r0 ≤ 100; omega, rfl⟩
 have hK := hex K hK
 generalize suL l r0 n0 [] = q at hI hK ⊢
 show J _ β _ _ _ (Nn β (IMd3 l q) (fun p : PM3 => p.r) (fun p : PM3 => FMd 7 (p.r : Nat)) (fun p : PM3 => SMd3 l c p.n se ins out p.sub) p K)
 obtain ⟨r, n, sub⟩ := p
 obtain ⟨g1, g2, g3⟩ := hI
 have g1 : PkOk l n := g1
 have g2 : sub.length + r ≤ 100 := g2
 have g3 : suL l r n sub = q := g3
 obtain ⟨a0, a1, p1⟩ := nF_ (m := 9) g1 (by omega)
 obtain ⟨e0, e1, p2⟩ := nF_ (m := 20) p1 (by omega)
 obtain ⟨m0, m1, p3⟩ := nF_ (m := 3) p2 (by omega)
 obtain ⟨k0, k1, p4⟩ := nF_ (m := 4) p3 (by omega)
 refine rJ_ (E := 1) (lvs := slMd3) (un := fun _ => 0) (fuel := 100) (n := 20) (ex := exMd4 l c se (r : Nat) ins out sub (suC l (r : Nat) n).2 (suC l (r : Nat) n).1) follows toldM6_ok hβ (lv := fun _ => [2, 3, 4, 7]) ?_
 have hb1 := g1.br hc
 have hb2 := Lr_eq l
 unfold Br at hb1
 unfold Lr at hb2
 refine (vc_md_r3 l c n se (r : Nat) (suC l (r : Nat) n).2 (suC l (r : Nat) n).1 ins out sub β _).mpr ?_
 try dsimp only
 rw [hb1, hb2, g1.all, g1.d, p1.d, p2.d, p3.d]
 cases r with
 | zero =>
  refine br_of (fun h => by simp at h) (fun _ => ?_)
  have g3 : (sub, n) = q := g3
  subst g3
  exact Nn.exit (Seen.refl _ _ _) hK
 | succ r =>
  have hw : IntKind.wrap .i64 (((r + 1 : Nat) : Int) - 1) = (r : Int) := by rw [w64 (by omega) (by omega)]; omega
  have hm : IntKind.wrap .i64 (1 + (numF l (numF l (numF l n 9).2 20).2 3).1) = 1 + (numF l (numF l (numF l n 9).2 20).2 3).1 := w64 (by omega) (by omega)
  have hk : (numF l (numF l (numF l (numF l n 9).2 20).2 3).2 4).1 = (((nuK l n).1.toNat : Nat) : Int) := by
   show _ = (((numF l (numF l (numF l (numF l n 9).2 20).2 3).2 4).1.toNat : Nat) : Int)
   omega
  have hkl : (nuK l n).1.toNat ≤ 3 := by
   have : (nuK l n).1 < 4 := k1
   omega
  have g3 : suL l r (suC l ((r + 1 : Nat) : Int) n).2 (sub ++ [(suC l ((r + 1 : Nat) : Int) n).1]) = q := g3
  rw [hw, hm, hk]
  refine br_of (fun _ => nd_ rfl (nd_ rfl (nd_ rfl (nd_ rfl ⟨?_, ?_⟩)))) (fun h => by simp at h)
  ·refine LoopJ.seen (f1 := FMd4 ((r + 1 : Nat) : Int) ((nuK l n).1.toNat : Nat)) (st1 := SMd4 l c (nuK l n).2 se ins out sub (w0 ((r + 1 : Nat) : Int) (nuA l n).1 (nuE l n).1 (1 + (nuM l n).1))) ?_ (md_loop4 hβ hc e0 (by show (numF l (numF l n 9).2 20).1 < 1000; omega) (by show 1 ≤ 1 + (numF l (numF l (numF l n 9).2 20).2 3).1; omega) hkl p4 (fun K h => h))
   refine Seen.trans (Seen.void 5 (encL ([] : List Im))) (Seen.objs rfl fun q o2 h => ?_)
   match q, h with
   | 0, h => cases h; exact ⟨_, rfl, rfl, fun _ _ _ h => h⟩
   | 1, h => cases h; exact ⟨_, rfl, rfl, fun _ _ _ h => h⟩
   | 2, h => cases h; exact ⟨_, rfl, rfl, fun _ _ _ h => h⟩
   | 3, h => cases h; exact ⟨_, rfl, rfl, fun _ _ _ h => h⟩
   | 4, h => cases h; exact ⟨_, rfl, rfl, fun _ _ _ h => h⟩
   | 5, h => cases h; exact ⟨_, rfl, rfl, fun _ _ _ h => h⟩
   | 6, h => cases h; exact ⟨_, rfl, rfl, fun _ _ _ h => h⟩
   | 7, h => cases h; exact ⟨_, rfl, rfl, fun _ _ _ h => ObjR.nilCell (j := 14) (k := 8) rfl h⟩
   | 8, h => cases h; exact ⟨_, rfl, rfl, fun _ _ _ h => h⟩
   | _ + 9, h => cases h
  ·generalize hs : suC l ((r + 1 : Nat) : Int) n = s at g3 ⊢
   have hsn : PkOk l s.2 := hs ▸ wkL_ok _ _ _ p4
   refine nd_ (by simp) (nd_ (Nat.ble_eq_true_of_le (by omega)) (nd_ (by simp) ?_))
   refine Nn.next (I := IMd3 l q) (m := fun p : PM3 => p.r) (F := fun p : PM3 => FMd 7 (p.r : Nat)) (S := fun p : PM3 => SMd3 l c p.n se ins out p.sub) (p := ⟨r + 1, n, sub⟩) ⟨r, s.2, sub ++ [s.1]⟩ ⟨hsn, by show (sub ++ [_]).length + r ≤ 100; rw [List.length_append]; simp; omega, g3⟩ (Nat.lt_succ_self _) ?_
   have hl : (sub ++ [s.1]).length = sub.length + 1 := by simp
   refine Seen.objs rfl fun q o2 h => ?_
   match q, h with
   | 0, h => cases h; exact ⟨_, rfl, rfl, fun _ _ _ h => h⟩
   | 1, h => cases h; exact ⟨_, rfl, rfl, fun _ _ _ h => h⟩
   | 2, h => cases h; exact ⟨_, rfl, rfl, fun _ _ _ h => h⟩
   | 3, h => cases h; exact ⟨_, by rw [hl]; rfl, rfl, fun _ _ _ h => h⟩
   | 4, h => cases h; exact ⟨_, rfl, rfl, fun _ _ _ h => h⟩
   | 5, h => cases h; exact ⟨_, rfl, rfl, fun _ _ _ h => h⟩
   | 6, h =>
    cases h
    exact ⟨_, rfl, rfl, fun _ _ _ h => row_app (α := Wt) (a := s.1) rfl rfl (fun _ _ => rfl) (fun j hj => by
     have hj : j < 15 := hj
     have z1 := encZ s.1.qu
     rw [z1]
     match j, hj with
     | 0, _ => rfl
     | 1, _ => rfl
     | 2, _ => rfl
     | 3, _ => rfl
     | 4, _ => rfl
     | 5, _ => rfl
     | 6, _ => rfl
     | 7, _ => rfl
     | 8, _ => rfl
     | 9, _ => rfl
     | 10, _ => rfl
     | 11, _ => rfl
     | 12, _ => rfl
     | 13, _ => rfl
     | 14, _ => rfl) h⟩
   | _ + 7, h => cases h
def seP (l : List U8) : Int × Int := numF l 0 9
def i0P (l : List U8) : Int × Int := numF l (seP l).2 4
def inP (l : List U8) : List Ms × Int := inL l (i0P l).1.toNat (i0P l).2 []
def o0P (l : List U8) : Int × Int := numF l (inP l).2 3
def ouP (l : List U8) : List Ms × Int := ouL l (o0P l).1.toNat (o0P l).2 []
def s0P (l : List U8) : Int × Int := numF l (ouP l).2 4
def suP (l : List U8) : List Wt × Int := suL l (s0P l).1.toNat (s0P l).2 []
def onQ (l : List U8) : Int × Int := numF l (suP l).2 5
def exMd (l : List U8) (c : Nat) : Nat → Kt → Prop := fun b K => cond (Nat.beq b 0) (K (.exit 0) (FMd 5 0) (SMd1 l c (inP l).2 (seP l).1 (inP l).1)) (cond (Nat.beq b 2) (K (.exit 2) (FMd 6 0) (SMd2 l c (ouP l).2 (seP l).1 (inP l).1 (ouP l).1)) (K (.exit 4) (FMd 7 0) (SMd3 l c (suP l).2 (seP l).1 (inP l).1 (ouP l).1 (suP l).1)))
theorem vc_made (l : List U8) (c : Nat) (β : Bs) (K : AE → List (Option AObj) → Prop) : lawE Tryz.prog toldM6 100 20 β (fun _ => 0) (cnOf 1 slMd) (exMd l c) 7 [.slice (some ⟨0, 0, some 0⟩) l.length c] (mkS [some (rowO .look l)]) (outC 1 K) =
 (fun (z1 : AObj) (z4 z5 z6 z16 : Nat) (z9 z11 z12 z13 : Addr) (z10 : Int) => ((fun (z2 z3 z8 : AObj) => ((fun (z0 : List U8) => ((fun (z7 z14 z15 : Int × Int) => ((fun (z17 : Int × Int) => (need (rowB U8 z4 c (some z2) && List.all z0 (okA U8) && true && true) (need (rowB U8 z4 c (some z2) && List.all z0 (okA U8) && decide ((0 : Int) ≤ Prod.snd z7) && true) (LoopJ Tryz.prog β (exMd l c) 0 (loopOf Tryz.prog 7 0) (mkF 87 [(2, .pointer (some z11)), (3, .pointer (some z12)), (4, .pointer (some z13)), (5, .int .i64 (Prod.fst z17))]) (mkS [some z2, some z1, some (.cells [.slice (some z9) z4 c, .int .i64 (Prod.snd z17)] true 0), some (.cells [.bool true, .int .i64 (Prod.fst z7), .slice none 0 0, .bool false, .slice none 0 0, .slice none 0 0, .slice none 0 0, .int .i64 (0 : Int)] true 0)]) ∧ need (rowB U8 z4 c (some z2) && List.all z0 (okA U8) && decide ((0 : Int) ≤ Prod.snd (inP l)) && true) (LoopJ Tryz.prog β (exMd l c) 2 (loopOf Tryz.prog 7 2) (mkF 87 [(2, .pointer (some z11)), (3, .pointer (some z12)), (4, .pointer (some z13)), (6, .int .i64 (Prod.fst z14))]) (mkS [some z2, some z1, some (.cells [.slice (some z9) z4 c, .int .i64 (Prod.snd z14)] true 0), some (.cells [.bool true, .int .i64 z10, .slice none 0 0, .bool false, .slice (some ⟨4, 0, some 0⟩) z5 1, .slice none 0 0, .slice none 0 0, .int .i64 (0 : Int)] true 0), some z3]) ∧ need (rowB U8 z4 c (some z2) && List.all z0 (okA U8) && decide ((0 : Int) ≤ Prod.snd (ouP l)) && true) (LoopJ Tryz.prog β (exMd l c) 4 (loopOf Tryz.prog 7 4) (mkF 87 [(2, .pointer (some z11)), (3, .pointer (some z12)), (4, .pointer (some z13)), (7, .int .i64 (Prod.fst z15))]) (mkS [some z2, some z1, some (.cells [.slice (some z9) z4 c, .int .i64 (Prod.snd z15)] true 0), some (.cells [.bool true, .int .i64 z10, .slice none 0 0, .bool false, .slice (some ⟨4, 0, some 0⟩) z5 1, .slice (some ⟨5, 0, some 0⟩) z6 1, .slice none 0 0, .int .i64 (0 : Int)] true 0), some z3, some z8]) ∧ need (rowB U8 z4 c (some z2) && List.all z0 (okA U8) && decide ((0 : Int) ≤ Prod.snd (suP l)) && true) (K (.returned (Value.agg (Array.mk [.bool (decide (Prod.fst (numF z0 (Prod.snd (suP l)) (5 : Int)) > (0 : Int))), .int .i64 z10, .slice none 0 0, .bool false, .slice (some ⟨1, 0, some 0⟩) z5 1, .slice (some ⟨2, 0, some 0⟩) z6 1, .slice (some ⟨3, 0, some 0⟩) z16 1, .int .i64 (0 : Int)]))) [some z2, some z3, some z8, some (.row .mine 15 0 z16 (encL (Prod.fst (suP l))))]))))))) (numF z0 (Prod.snd z7) (4 : Int)))) (numF z0 (0 : Int) (9 : Int)) (numF z0 (Prod.snd (inP l)) (3 : Int)) (numF z0 (Prod.snd (ouP l)) (4 : Int)))) (rowL U8 z4 (some z2)))) (.row .look 1 0 z4 (encL l)) (.row .mine 12 0 z5 (encL (Prod.fst (inP l)))) (.row .mine 12 0 z6 (encL (Prod.fst (ouP l)))))) (.cells [.bool false, .int .i64 (0 : Int), .slice none 0 0, .bool false, .slice none 0 0, .slice none 0 0, .slice none 0 0, .int .i64 (0 : Int)] true 0) l.length (List.length (Prod.fst (inP l))) (List.length (Prod.fst (ouP l))) (List.length (Prod.fst (suP l))) ⟨0, 0, some 0⟩ ⟨1, 0, none⟩ ⟨2, 0, none⟩ ⟨3, 0, none⟩ (Prod.fst (seP l)) := by kernel_rfl
theorem inL_ok {l : List U8} : ∀ (r : Nat) (n : Int) (x : List Ms), PkOk l n → PkOk l (inL l r n x).2
 | 0, n, x, h => h
 | r + 1, n, x, h => inL_ok r _ _ (askM_ok _ h)
theorem ouL_ok {l : List U8} : ∀ (r : Nat) (n : Int) (x : List Ms), PkOk l n → PkOk l (ouL l r n x).2
 | 0, n, x, h => h
 | r + 1, n, x, h => ouL_ok r _ _ (anV_ok h)
theorem suC_ok {l : List U8} {n : Int} (i : Int) (h : PkOk l n) : PkOk l (suC l i n).2 :=
 wkL_ok _ _ _ (nF_ (m := 4) (nF_ (m := 3) (nF_ (m := 20) (nF_ (m := 9) h (by omega)).2.2 (by omega)).2.2 (by omega)).2.2 (by omega)).2.2
theorem suL_ok {l : List U8} : ∀ (r : Nat) (n : Int) (x : List Wt), PkOk l n → PkOk l (suL l r n x).2
 | 0, n, x, h => h
 | r + 1, n, x, h => suL_ok r _ _ (suC_ok _ h)
def madeS (l : List U8) : Ss := ⟨decide ((onQ l).1 > 0), (seP l).1, [], 1, false, (inP l).1, 1, (ouP l).1, 1, (suP l).1, 1, 0⟩
theorem made_told : ToldW Tryz.prog 7 (okA1 (Rw U8) fun r => r.l.all (okA U8)) (ansA1 (Rw U8) fun r => .ret (ansO (madeS r.l))) := by
 refine toldA1 follows fun r hg hp => ⟨toldM6, 100, 20, fun _ => 0, slMd, exMd r.l r.c, toldM6_ok, fun β hβ => ?_⟩
 obtain ⟨l, c⟩ := r
 obtain ⟨g1, g2, g3⟩ := hg
 have g1 : l.all (okA U8) = true := g1
 have g2 : l.length ≤ 1000000 := g2
 have g3 : c ≤ 1 := g3
 show lawE Tryz.prog toldM6 100 20 β (fun _ => 0) (cnOf 1 slMd) (exMd l c) 7 [.slice (some ⟨0, 0, some 0⟩) l.length c] (mkS [some (rowO .look l)]) (outC 1 fun r m => ∃ m2, objsR m m2 ∧ ansE (.ret (ansO (madeS l))) r (mkS m2))
 refine (vc_made l c β _).mpr ?_
 try dsimp only
 have hp0 : PkOk l 0 := ⟨g1, g2, Int.le_refl _⟩
 have hb1 := hp0.br g3
 have hb2 := Lr_eq l
 unfold Br at hb1
 unfold Lr at hb2
 obtain ⟨s0, s1, p1⟩ := nF_ (m := 9) hp0 (by omega)
 obtain ⟨i0, i1, p2⟩ := nF_ (m := 4) p1 (by omega)
 have p3 : PkOk l (inP l).2 := inL_ok _ _ _ p2
 obtain ⟨o0, o1, p4⟩ := nF_ (m := 3) p3 (by omega)
 have p5 : PkOk l (ouP l).2 := ouL_ok _ _ _ p4
 obtain ⟨u0, u1, p6⟩ := nF_ (m := 4) p5 (by omega)
 have p7 : PkOk l (suP l).2 := suL_ok _ _ _ p6
 have e1 : (numF l (numF l 0 9).2 4).1 = (((i0P l).1.toNat : Nat) : Int) := by
  show _ = (((numF l (numF l 0 9).2 4).1.toNat : Nat) : Int)
  omega
 have e2 : (numF l (inP l).2 3).1 = (((o0P l).1.toNat : Nat) : Int) := by
  show _ = (((numF l (inP l).2 3).1.toNat : Nat) : Int)
  omega
 have e3 : (numF l (ouP l).2 4).1 = (((s0P l).1.toNat : Nat) : Int) := by
  show _ = (((numF l (ouP l).2 4).1.toNat : Nat) : Int)
  omega
 rw [hb1, hb2, g1, p1.d, p3.d, p5.d, p7.d, e1, e2, e3]
 refine nd_ rfl (nd_ rfl ⟨?_, nd_ rfl ⟨?_, nd_ rfl ⟨?_, nd_ rfl ?_⟩⟩⟩)
 ·refine LoopJ.seen (f1 := FMd 5 ((i0P l).1.toNat : Nat)) (st1 := SMd1 l c (i0P l).2 (seP l).1 []) ?_ (md_loop1 (r0 := (i0P l).1.toNat) (n0 := (i0P l).2) hβ g3 (fun K h => h) (by have : (i0P l).1 < 4 := i1; omega) p2)
  refine Seen.trans (Seen.void 12 (encL ([] : List Ms))) (Seen.objs rfl fun q o2 h => ?_)
  match q, h with
  | 0, h => cases h; exact ⟨_, rfl, rfl, fun _ _ _ h => h⟩
  | 1, h => cases h; exact ⟨_, rfl, rfl, fun _ _ _ h => h⟩
  | 2, h => cases h; exact ⟨_, rfl, rfl, fun _ _ _ h => h⟩
  | 3, h => cases h; exact ⟨_, rfl, rfl, fun _ _ _ h => ObjR.nilCell (j := 4) (k := 4) rfl h⟩
  | 4, h => cases h; exact ⟨_, rfl, rfl, fun _ _ _ h => h⟩
  | _ + 5, h => cases h
 ·refine LoopJ.seen (f1 := FMd 6 ((o0P l).1.toNat : Nat)) (st1 := SMd2 l c (o0P l).2 (seP l).1 (inP l).1 []) ?_ (md_loop2 (r0 := (o0P l).1.toNat) (n0 := (o0P l).2) hβ g3 (fun K h => h) (by have : (o0P l).1 < 3 := o1; omega) p4)
  refine Seen.trans (Seen.void 12 (encL ([] : List Ms))) (Seen.objs rfl fun q o2 h => ?_)
  match q, h with
  | 0, h => cases h; exact ⟨_, rfl, rfl, fun _ _ _ h => h⟩
  | 1, h => cases h; exact ⟨_, rfl, rfl, fun _ _ _ h => h⟩
  | 2, h => cases h; exact ⟨_, rfl, rfl, fun _ _ _ h => h⟩
  | 3, h => cases h; exact ⟨_, rfl, rfl, fun _ _ _ h => ObjR.nilCell (j := 5) (k := 5) rfl h⟩
  | 4, h => cases h; exact ⟨_, rfl, rfl, fun _ _ _ h => h⟩
  | 5, h => cases h; exact ⟨_, rfl, rfl, fun _ _ _ h => h⟩
  | _ + 6, h => cases h
 ·refine LoopJ.seen (f1 := FMd 7 ((s0P l).1.toNat : Nat)) (st1 := SMd3 l c (s0P l).2 (seP l).1 (inP l).1 (ouP l).1 []) ?_ (md_loop3 (r0 := (s0P l).1.toNat) (n0 := (s0P l).2) hβ g3 (by have : (s0P l).1 < 4 := u1; omega) p6 (fun K h => h))
  refine Seen.trans (Seen.void 15 (encL ([] : List Wt))) (Seen.objs rfl fun q o2 h => ?_)
  match q, h with
  | 0, h => cases h; exact ⟨_, rfl, rfl, fun _ _ _ h => h⟩
  | 1, h => cases h; exact ⟨_, rfl, rfl, fun _ _ _ h => h⟩
  | 2, h => cases h; exact ⟨_, rfl, rfl, fun _ _ _ h => h⟩
  | 3, h => cases h; exact ⟨_, rfl, rfl, fun _ _ _ h => ObjR.nilCell (j := 6) (k := 6) rfl h⟩
  | 4, h => cases h; exact ⟨_, rfl, rfl, fun _ _ _ h => h⟩
  | 5, h => cases h; exact ⟨_, rfl, rfl, fun _ _ _ h => h⟩
  | 6, h => cases h; exact ⟨_, rfl, rfl, fun _ _ _ h => h⟩
  | _ + 7, h => cases h
 ·refine ⟨_, objsR.refl _, [1, 2, 3], ⟨_, rfl, ?_⟩, by simp⟩
  refine rS_ rfl rfl (rS_ rfl rfl (rO_ (l1 := []) (l2 := [1, 2, 3]) (rN_ rfl rfl) ?_))
  refine rS_ rfl rfl (rO_ (l1 := [1]) (l2 := [2, 3]) (raE_L (inP l).1 rfl fun _ => rfl) ?_)
  refine rO_ (l1 := [2]) (l2 := [3]) (raE_L (ouP l).1 rfl fun _ => rfl) ?_
  refine rO_ (l1 := [3]) (l2 := []) (raE_L (suP l).1 rfl fun _ => rfl) ?_
  exact rS_ rfl rfl rasE_nil
def slSw : List Nat := [2, 3, 5]
def lvSw : AX → List Nat := fun x => match x with
 | .ret => [4]
 | _ => slSw
def sameI (a b : Im) : Bool := cond (a.sq == b.sq) (cond (a.lo == b.lo) (cond (a.v.k == b.v.k) (cond (a.v.i == b.v.i) (sameN a.v.f b.v.f) false) false) false) false
def sameIs (l m : List Im) : Bool := (List.range l.length).all fun i => sameI (l.getD i Enc.dflt) (m.getD i Enc.dflt)
def FSw (k : Int) : AFr := mkF 104 [(2, .pointer (some ⟨2, 0, none⟩)), (3, .pointer (some ⟨3, 0, none⟩)), (5, .int .i64 k)]
def FSwr : AFr := mkF 104 [(4, .bool false)]
def SSw (a b : Wt) : ASt := mkS [some (rowO .look a.qu), some (rowO .look b.qu), some (wtO a 0), some (wtO b 1)]
def SSwr (a b : Wt) : ASt := mkS [some (rowO .look a.qu), some (rowO .look b.qu)]
def exSw (a b : Wt) : Nat → Kt → Prop := fun x K => (sameIs a.qu b.qu = false → K .ret FSwr (SSwr a b)) ∧ (sameIs a.qu b.qu = true → K (.exit x) (FSw a.qu.length) (SSw a b))
theorem vc_sw (a b : Wt) (β : Bs) (K : AE → List (Option AObj) → Prop) : lawE Tryz.prog toldM6 100 20 β (fun _ => 0) (cnOf 2 fun _ => slSw) (exSw a b) 30 [wtV a 0, wtV b 1] (mkS [some (rowO .look a.qu), some (rowO .look b.qu)]) (outC 2 K) =
 (fun (z2 z3 : Nat) (z6 : AE) => ((fun (z4 z5 : AObj) => ((fun (z1 : List (Option AObj)) => ((fun (z0 : Prop) => (br (Wt.nu a != Wt.nu b) z0 (br (Wt.ad a != Wt.ad b) z0 (br (Wt.ev a != Wt.ev b) z0 (br (Wt.du a != Wt.du b) z0 (br (Vl.k (Wt.bd a) == Vl.k (Wt.bd b)) (br (Vl.i (Wt.bd a) == Vl.i (Wt.bd b)) (br (!sameN (Vl.f (Wt.bd a)) (Vl.f (Wt.bd b))) z0 (br (Wt.mo a != Wt.mo b) z0 (br (!Wt.ha a == Wt.ha b) z0 (br (!Wt.lo a == Wt.lo b) z0 (br (Vl.k (Wt.la a) == Vl.k (Wt.la b)) (br (Vl.i (Wt.la a) == Vl.i (Wt.la b)) (br (!sameN (Vl.f (Wt.la a)) (Vl.f (Wt.la b))) z0 (br (Wt.sq a != Wt.sq b) z0 (br (Int.ofNat z2 != Int.ofNat z3) z0 (LoopJ Tryz.prog β (exSw a b) 0 (loopOf Tryz.prog 30 0) (mkF 104 [(2, .pointer (some ⟨2, 0, none⟩)), (3, .pointer (some ⟨3, 0, none⟩)), (5, .int .i64 (0 : Int))]) (mkS [some z4, some z5, some (.cells [.int .i64 (Wt.nu a), .int .i64 (Wt.ad a), .int .i64 (Wt.ev a), .int .i64 (Wt.du a), .int .i64 (Vl.k (Wt.bd a)), .int .i64 (Vl.i (Wt.bd a)), .float .f64 (Vl.f (Wt.bd a)), .int .i64 (Wt.mo a), .bool (Wt.ha a), .bool (Wt.lo a), .int .i64 (Vl.k (Wt.la a)), .int .i64 (Vl.i (Wt.la a)), .float .f64 (Vl.f (Wt.la a)), .int .i64 (Wt.sq a), .slice (some ⟨0, 0, some 0⟩) z2 (Wt.cqu a)] true 0), some (.cells [.int .i64 (Wt.nu b), .int .i64 (Wt.ad b), .int .i64 (Wt.ev b), .int .i64 (Wt.du b), .int .i64 (Vl.k (Wt.bd b)), .int .i64 (Vl.i (Wt.bd b)), .float .f64 (Vl.f (Wt.bd b)), .int .i64 (Wt.mo b), .bool (Wt.ha b), .bool (Wt.lo b), .int .i64 (Vl.k (Wt.la b)), .int .i64 (Vl.i (Wt.la b)), .float .f64 (Vl.f (Wt.la b)), .int .i64 (Wt.sq b), .slice (some ⟨1, 0, some 0⟩) z3 (Wt.cqu b)] true 0)]) ∧ (sameIs (Wt.qu a) (Wt.qu b) = false → K z6 z1) ∧ (sameIs (Wt.qu a) (Wt.qu b) = true → K (.returned (.bool true)) z1))))) z0) z0))))) z0) z0)))))) (K z6 z1))) [some z4, some z5])) (.row .look 5 0 z2 (encL (Wt.qu a))) (.row .look 5 0 z3 (encL (Wt.qu b))))) (List.length (Wt.qu a)) (List.length (Wt.qu b)) (.returned (.bool false)) := by kernel_rfl
theorem vc_sw_r (a b : Wt) (k : Int) (β : Bs) (Nx : Kt) : roundJ Tryz.prog toldM6 100 20 β (fun _ => 0) (cnOf 2 fun _ => slSw) (fun _ _ => False) 30 0 2 lvSw (FSw k) (SSw a b) Nx =
 (fun (z2 z5 z6 : Nat) => ((fun (z3 z4 : Im) (z7 z8 : AObj) => ((fun (z0 : ASt) (z1 : Prop) => (br (decide (k < Int.ofNat z5)) (need (decide ((0 : Int) ≤ k)) (need (Nat.blt (Int.toNat k) z5) (need (Nat.ble 0 z2 && Nat.blt z2 z5) (need (decide ((0 : Int) ≤ k)) (need (Nat.blt (Int.toNat k) z6) (need (Nat.ble 0 z2 && Nat.blt z2 z6) (br (Im.sq z3 == Im.sq z4) (br (Im.lo z3 == Im.lo z4) (br (Vl.k (Im.v z3) == Vl.k (Im.v z4)) (br (Vl.i (Im.v z3) == Vl.i (Im.v z4)) (br (!sameN (Vl.f (Im.v z3)) (Vl.f (Im.v z4))) z1 (Nx .normal (mkF 104 [(2, .pointer (some ⟨2, 0, none⟩)), (3, .pointer (some ⟨3, 0, none⟩)), (5, .int .i64 (IntKind.wrap .i64 (k + (1 : Int))))]) z0)) z1) z1) z1) z1))))))) (Nx (.exit 0) (mkF 104 [(2, .pointer (some ⟨2, 0, none⟩)), (3, .pointer (some ⟨3, 0, none⟩)), (5, .int .i64 k)]) z0))) (mkS [some z7, some z8, some (.cells [.int .i64 (Wt.nu a), .int .i64 (Wt.ad a), .int .i64 (Wt.ev a), .int .i64 (Wt.du a), .int .i64 (Vl.k (Wt.bd a)), .int .i64 (Vl.i (Wt.bd a)), .float .f64 (Vl.f (Wt.bd a)), .int .i64 (Wt.mo a), .bool (Wt.ha a), .bool (Wt.lo a), .int .i64 (Vl.k (Wt.la a)), .int .i64 (Vl.i (Wt.la a)), .float .f64 (Vl.f (Wt.la a)), .int .i64 (Wt.sq a), .slice (some ⟨0, 0, some 0⟩) z5 (Wt.cqu a)] true 0), some (.cells [.int .i64 (Wt.nu b), .int .i64 (Wt.ad b), .int .i64 (Wt.ev b), .int .i64 (Wt.du b), .int .i64 (Vl.k (Wt.bd b)), .int .i64 (Vl.i (Wt.bd b)), .float .f64 (Vl.f (Wt.bd b)), .int .i64 (Wt.mo b), .bool (Wt.ha b), .bool (Wt.lo b), .int .i64 (Vl.k (Wt.la b)), .int .i64 (Vl.i (Wt.la b)), .float .f64 (Vl.f (Wt.la b)), .int .i64 (Wt.sq b), .slice (some ⟨1, 0, some 0⟩) z6 (Wt.cqu b)] true 0)]) (Nx .ret (mkF 104 [(4, .bool false)]) (mkS [some z7, some z8])))) (List.getD (Wt.qu a) z2 Enc.dflt) (List.getD (Wt.qu b) z2 Enc.dflt) (.row .look 5 0 z5 (encL (Wt.qu a))) (.row .look 5 0 z6 (encL (Wt.qu b))))) (0 + Int.toNat k) (List.length (Wt.qu a)) (List.length (Wt.qu b)) := by kernel_rfl
def slSs : List Nat := [0, 1, 5]
def FSs (l m : List Ms) (c d : Nat) (k : Int) : AFr := mkF 27 [(0, .slice (some ⟨0, 0, some 0⟩) l.length c), (1, .slice (some ⟨1, 0, some 0⟩) m.length d), (5, .int .i64 k)]
def lvSs : AX → List Nat := fun x => match x with
 | .ret => [4]
 | _ => slSs
def FSsr : AFr := mkF 27 [(4, .bool false)]
def SSs (l m : List Ms) : ASt := mkS [some (rowO .look l), some (rowO .look m)]
def sameMs (l m : List Ms) : Bool := (List.range l.length).all fun i => sameM (l.getD i Enc.dflt) (m.getD i Enc.dflt)
def exSs (l m : List Ms) (c d : Nat) : Nat → Kt → Prop := fun b K => (sameMs l m = false → K .ret FSsr (SSs l m)) ∧ (sameMs l m = true → K (.exit b) (FSs l m c d l.length) (SSs l m))
theorem vc_ss (l m : List Ms) (c d : Nat) (β : Bs) (K : AE → List (Option AObj) → Prop) : lawE Tryz.prog toldM6 100 20 β (fun _ => 0) (cnOf 2 fun _ => slSs) (exSs l m c d) 29 [.slice (some ⟨0, 0, some 0⟩) l.length c, .slice (some ⟨1, 0, some 0⟩) m.length d] (SSs l m) (outC 2 K) =
 (fun (z1 : AE) (z2 z3 : Nat) => ((fun (z0 : List (Option AObj)) => (br (Int.ofNat z2 != Int.ofNat z3) (K z1 z0) (LoopJ Tryz.prog β (exSs l m c d) 0 (loopOf Tryz.prog 29 0) (mkF 27 [(0, .slice (some ⟨0, 0, some 0⟩) z2 c), (1, .slice (some ⟨1, 0, some 0⟩) z3 d), (5, .int .i64 (0 : Int))]) (mkS z0) ∧ (sameMs l m = false → K z1 z0) ∧ (sameMs l m = true → K (.returned (.bool true)) z0)))) [some (.row .look 12 0 z2 (encL l)), some (.row .look 12 0 z3 (encL m))])) (.returned (.bool false)) l.length m.length := by kernel_rfl
theorem vc_ss_r (l m : List Ms) (c d : Nat) (k : Int) (β : Bs) (Nx : Kt) : roundJ Tryz.prog toldM6 100 20 β (fun _ => 0) (cnOf 2 fun _ => slSs) (fun _ _ => False) 29 0 2 lvSs (FSs l m c d k) (SSs l m) Nx =
 (fun (z5 z6 z7 : Nat) => ((fun (z0 z1 : Ms) (z4 : ASt) => ((fun (z8 z9 z10 z11 : Nat) => ((fun (z2 z3 : List Td) => (br (decide (k < Int.ofNat z6)) (need (decide ((0 : Int) ≤ k)) (need (Nat.blt (Int.toNat k) z6) (need (Nat.ble 0 z5 && Nat.blt z5 z6) (need (decide ((0 : Int) ≤ k)) (need (Nat.blt (Int.toNat k) z7) (need (Nat.ble 0 z5 && Nat.blt z5 z7) (need (true && Nat.ble (0 + List.length (Ms.ps z0)) z8) (need (true && Nat.ble (0 + List.length (Ms.vs z0)) z9) (need (true && Nat.ble (0 + List.length (Ms.ps z1)) z10) (need (true && Nat.ble (0 + List.length (Ms.vs z1)) z11) (need (okS2 Ms (fun x x_1 => true) [Ta.agg z2, Ta.agg z3]) (br (!sameM (Enc.dec (nthT z2)) (Enc.dec (nthT z3))) (Nx .ret (mkF 27 [(4, .bool false)]) z4) (Nx .normal (mkF 27 [(0, .slice (some ⟨0, 0, some 0⟩) z6 c), (1, .slice (some ⟨1, 0, some 0⟩) z7 d), (5, .int .i64 (IntKind.wrap .i64 (k + (1 : Int))))]) z4))))))))))))) (Nx (.exit 0) (mkF 27 [(0, .slice (some ⟨0, 0, some 0⟩) z6 c), (1, .slice (some ⟨1, 0, some 0⟩) z7 d), (5, .int .i64 k)]) z4))) [.sc (.int .i64 (Ms.k z0)), .sc (.int .i64 (Ms.id z0)), .sc (.int .i64 (Ms.er z0)), .sc (.int .i64 (Ms.n z0)), .sc (.int .i64 (Ms.sq z0)), .sc (.bool (Ms.lo z0)), .sc (.int .i64 (Ms.ev z0)), .sc (.int .i64 (Vl.k (Ms.bd z0))), .sc (.int .i64 (Vl.i (Ms.bd z0))), .sc (.float .f64 (Vl.f (Ms.bd z0))), .fr 1 z8 (Ms.cps z0) fun i => encL (Ms.ps z0) (0 + i), .fr 3 z9 (Ms.cvs z0) fun i => encL (Ms.vs z0) (0 + i)] [.sc (.int .i64 (Ms.k z1)), .sc (.int .i64 (Ms.id z1)), .sc (.int .i64 (Ms.er z1)), .sc (.int .i64 (Ms.n z1)), .sc (.int .i64 (Ms.sq z1)), .sc (.bool (Ms.lo z1)), .sc (.int .i64 (Ms.ev z1)), .sc (.int .i64 (Vl.k (Ms.bd z1))), .sc (.int .i64 (Vl.i (Ms.bd z1))), .sc (.float .f64 (Vl.f (Ms.bd z1))), .fr 1 z10 (Ms.cps z1) fun i => encL (Ms.ps z1) (0 + i), .fr 3 z11 (Ms.cvs z1) fun i => encL (Ms.vs z1) (0 + i)])) (List.length (Ms.ps z0)) (List.length (Ms.vs z0)) (List.length (Ms.ps z1)) (List.length (Ms.vs z1)))) (List.getD l z5 Enc.dflt) (List.getD m z5 Enc.dflt) (mkS [some (.row .look 12 0 z6 (encL l)), some (.row .look 12 0 z7 (encL m))]))) (0 + Int.toNat k) l.length m.length := by kernel_rfl
end Go.Proofs.YtachglcffimmeaaGreat.Ev
