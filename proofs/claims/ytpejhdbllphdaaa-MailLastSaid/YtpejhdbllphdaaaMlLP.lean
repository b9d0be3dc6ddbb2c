/-
  MailLast: what has to hold holds.
-/
import Derived.Test.YtpejhdbllphdaaaMlLW
import Derived.Test.YtpejhdbllphdaaaEnM
set_option linter.unusedVariables false
set_option linter.unusedSimpArgs false
set_option maxRecDepth 100000
namespace Go.Proofs.Ytpejhdbllphdaaa.Ev
open Go Go.Proofs Go.RowKit

structure Hold (p : Prop) : Prop where
  h : p
theorem sameVl_self (a : Vl) : sameVl a a = true := by simp [sameVl, same_self]
theorem sameVs_self (l : List Vl) : sameVs l l = true := by simp [sameVs, sameVl_self]
theorem ok2_vl {l m : List Vl} {c d : Nat} (h1 : l.length ≤ 1000000) (h2 : m.length ≤ 1000000) (h3 : c ≤ 1) (h4 : d ≤ 1) : ok2 Vl Vl (fun _ _ _ _ => true) [Ta.cell (Td.fr 3 l.length c (encL l)), Ta.cell (Td.fr 3 m.length d (encL m))] = true := by
  show (okT Vl (tdL l c) && okT Vl (tdL m d) && true) = true
  rw [okT_tdL (allV _) h1 h3, okT_tdL (allV _) h2 h4]; rfl
theorem lV (l : List Vl) (c : Nat) : listT Vl (Td.fr 3 l.length c (encL l)) = l := listT_tdL l c
theorem esV : Enc.es Vl = 3 := rfl
/-- loop one: as it fills both -/
theorem l1_loop {l : List U2} {c n : Nat} {β : Bs} (hβ : β.X.length = 1) (hn : n ≤ 6) {ex : Nat → Kt → Prop} (hex : ∀ K, ex 0 K → ∀ A : List Vl, A.length = n → K (.exit 0) (F1 l A A c n n) (S1 l A A)) (A0 : List Vl) (hA0 : A0.length = n) : LoopJ Try.prog β ex 0 (loopOf Try.prog 5 0) (F1 l A0 A0 c n (0 : Nat)) (S1 l A0 A0) := by
  refine loop_rule (fun p : Nat × List Vl => p.1 ≤ n ∧ p.2.length = n) (fun p => F1 l p.2 p.2 c n p.1) (fun p => S1 l p.2 p.2) (fun p => n - p.1) (fun p hp K hK => ?_) (0, A0) ⟨Nat.zero_le _, hA0⟩
  obtain ⟨k, A⟩ := p
  obtain ⟨hk, hA⟩ := hp
  have hk : k ≤ n := hk
  have hA : A.length = n := hA
  have hK := hex K hK
  show J _ β _ _ _ (Nn β (fun p : Nat × List Vl => p.1 ≤ n ∧ p.2.length = n) (fun p => n - p.1) (fun p : Nat × List Vl => F1 l p.2 p.2 c n p.1) (fun p => S1 l p.2 p.2) (k, A) K)
  refine roundJ_ok (E := 1) (lvs := slL) (un := fun _ => 0) (fuel := 100) (n := 20) (ex := fun _ _ => False) follows toldL_ok hβ (lv := lvL0) ?_
  show roundJ _ _ _ _ _ _ _ _ _ _ _ _ (F1 l A A c n k) (S1 l A A) _
  rw [vc_l1]
  by_cases hkn : k < n
  · have c1 : decide ((k : Int) < (n : Int)) = true := decide_eq_true (by omega)
    have c2 : decide ((0 : Int) ≤ (k : Int)) = true := decide_eq_true (by omega)
    have e0 : Int.toNat (k : Int) = k := Int.toNat_natCast k
    have c3 : Nat.blt k A.length = true := by simp; omega
    have c5 : Nat.ble 0 k = true := by simp
    have hw : IntKind.wrap .i64 ((k : Int) + 1) = ((k + 1 : Nat) : Int) := w64 (by omega) (by omega)
    simp only [c1, c2, e0, Nat.zero_add, c3, c5, Bool.true_and, br_t, need_t, hw, Nat.beq_refl, cond_true]
    refine Nn.next (I := fun p : Nat × List Vl => p.1 ≤ n ∧ p.2.length = n) (m := fun p => n - p.1) (F := fun p : Nat × List Vl => F1 l p.2 p.2 c n p.1) (S := fun p => S1 l p.2 p.2) (p := (k, A)) (k + 1, A.set k ⟨2, IntKind.wrap .i64 (100 + (k : Int)), 0⟩) ⟨hkn, by simp [hA]⟩ (by show n - (k + 1) < n - k; omega) ?_
    have hF : F1 l (A.set k ⟨2, IntKind.wrap .i64 (100 + (k : Int)), 0⟩) (A.set k ⟨2, IntKind.wrap .i64 (100 + (k : Int)), 0⟩) c n ((k + 1 : Nat) : Int) = F1 l A A c n ((k + 1 : Nat) : Int) := by
      unfold F1; rw [List.length_set]
    show Seen β _ _ (F1 l (A.set k ⟨2, IntKind.wrap .i64 (100 + (k : Int)), 0⟩) (A.set k ⟨2, IntKind.wrap .i64 (100 + (k : Int)), 0⟩) c n ((k + 1 : Nat) : Int)) (S1 l (A.set k ⟨2, IntKind.wrap .i64 (100 + (k : Int)), 0⟩) (A.set k ⟨2, IntKind.wrap .i64 (100 + (k : Int)), 0⟩))
    rw [hF]
    have hput : ∀ ρ s w', ObjR ρ (.row .mine 3 0 A.length (putT k 0 [Td.sc (.int .i64 2), Td.sc (.int .i64 (IntKind.wrap .i64 (100 + (k : Int)))), Td.sc (.float .f64 0)] (encL A))) s w' → ObjR ρ (rowO .mine (A.set k ⟨2, IntKind.wrap .i64 (100 + (k : Int)), 0⟩)) s w' := fun ρ s w' h => row_put (α := Vl) rfl (fun j hj => match j, hj with
      | 0, _ => rfl
      | 1, _ => rfl
      | 2, _ => rfl) (by omega) h
    exact Seen.three rfl rfl rfl (fun _ _ _ h => h) hput hput
  · have hkn' : k = n := by omega
    subst hkn'
    have c1 : decide ((k : Int) < (k : Int)) = false := decide_eq_false (by omega)
    simp only [c1, br_f]
    exact Nn.exit (Seen.refl _ _ _) (hK A hA)
theorem updD_len (W : List Vl) (a : Int) (v : Vl) : (updD W a v).length = W.length := by unfold updD; split <;> simp
theorem wantN_len (l : List U2) (A : List Vl) (k : Nat) : (wantN l A k).length = A.length := by
  induction k with
  | zero => rfl
  | succ k ih => show (updD _ _ _).length = _; rw [updD_len, ih]
theorem aI_eq {l : List U2} (hl : ∀ x ∈ l, 0 ≤ x.a ∧ x.a < 256 ∧ 0 ≤ x.b ∧ x.b < 256) {k : Nat} (hk : k < l.length) : IntKind.wrap .i64 (Int.tmod (l.getD k Enc.dflt).a 8) = Int.tmod (l.getD k Enc.dflt).a 8 ∧ 0 ≤ Int.tmod (l.getD k Enc.dflt).a 8 := by
  have hx := hl (l.getD k Enc.dflt) (by simp [List.getD, hk])
  obtain ⟨p, hp⟩ := Int.eq_ofNat_of_zero_le hx.1
  rw [hp, show Int.tmod (p : Int) 8 = ((p % 8 : Nat) : Int) from (Int.ofNat_tmod p 8).symm]
  exact ⟨w64 (by omega) (by omega), by omega⟩
def F2 (l : List U2) (A W : List Vl) (c : Nat) (N : Int) : Nat → AFr
  | 0 => F2_0 l A W c N
  | 1 => F2_1 l A W c N
  | 2 => F2_2 l A W c N
  | 3 => F2_3 l A W c N
  | 4 => F2_4 l A W c N
  | 5 => F2_5 l A W c N
  | 6 => F2_6 l A W c N
  | 7 => F2_7 l A W c N
  | 8 => F2_8 l A W c N
  | 9 => F2_9 l A W c N
  | _ => F2_9 l A W c N
def S2 (l : List U2) (A W : List Vl) : Nat → ASt
  | 0 => S2_0 l A W
  | 1 => S2_1 l A W
  | 2 => S2_2 l A W
  | 3 => S2_3 l A W
  | 4 => S2_4 l A W
  | 5 => S2_5 l A W
  | 6 => S2_6 l A W
  | 7 => S2_7 l A W
  | 8 => S2_8 l A W
  | 9 => S2_9 l A W
  | _ => S2_9 l A W
def Nl (l : List U2) (A : List Vl) (c n : Nat) (β : Bs) (k : Nat) (K : Kt) : Kt := Nn β (fun k : Nat => k ≤ l.length ∧ k ≤ 9) (fun k => l.length - k) (fun k : Nat => F2 l A (wantN l A k) c n k) (fun k => S2 l A (wantN l A k) k) k K
theorem want_set {l : List U2} {A : List Vl} {k n : Nat} (hl : ∀ x ∈ l, 0 ≤ x.a ∧ x.a < 256 ∧ 0 ≤ x.b ∧ x.b < 256) (hA : A.length = n) (hk : k < l.length) (h : Int.tmod (l.getD k Enc.dflt).a 8 < (n : Int)) : wantN l A (k + 1) = (wantN l A k).set (Int.tmod (l.getD k Enc.dflt).a 8).toNat (vI l k) := by
  have h1 := aI_eq hl hk
  show updD _ (aI l k) _ = _
  unfold updD aI
  rw [h1.1, if_pos ⟨h1.2, by rw [wantN_len, hA]; exact h⟩]
theorem want_same {l : List U2} {A : List Vl} {k n : Nat} (hl : ∀ x ∈ l, 0 ≤ x.a ∧ x.a < 256 ∧ 0 ≤ x.b ∧ x.b < 256) (hA : A.length = n) (hk : k < l.length) (h : ¬ Int.tmod (l.getD k Enc.dflt).a 8 < (n : Int)) : wantN l A (k + 1) = wantN l A k := by
  have h1 := aI_eq hl hk
  show updD _ (aI l k) _ = _
  unfold updD aI
  rw [h1.1, if_neg]
  rintro ⟨_, h3⟩
  rw [wantN_len, hA] at h3
  exact h h3
theorem put_want {l : List U2} {W : List Vl} {k q : Nat} (hq : q < W.length) (ρ : Rho) (s : Spot) (w' : World) (h : ObjR ρ (.row .mine 3 0 W.length (putT q 0 [Td.sc (.int .i64 2), Td.sc (.int .i64 (IntKind.wrap .i64 (l.getD k Enc.dflt).b)), Td.sc (.float .f64 0)] (encL W))) s w') : ObjR ρ (rowO .mine (W.set q (vI l k))) s w' := row_put (α := Vl) rfl (fun j hj => match j, hj with
      | 0, _ => rfl
      | 1, _ => rfl
      | 2, _ => rfl) hq h
theorem lr0 {l : List U2} {A : List Vl} {c n : Nat} {β : Bs} (hβ : β.X.length = 1) (hn : n ≤ 6) (hA : A.length = n) (h9 : l.length ≤ 9) (hl : ∀ x ∈ l, 0 ≤ x.a ∧ x.a < 256 ∧ 0 ≤ x.b ∧ x.b < 256) (K : Kt) (hK : l.length = 0 → K (.exit 2) (F2_0 l A (wantN l A 0) c n) (S2_0 l A (wantN l A 0))) (hk : 0 ≤ l.length) :
    J Try.prog β (loopOf Try.prog 5 2) (F2_0 l A (wantN l A 0) c n) (S2_0 l A (wantN l A 0)) (Nl l A c n β 0 K) := by
  refine roundJ_ok (E := 1) (lvs := slL) (un := fun _ => 0) (fuel := 100) (n := 20) (ex := fun _ _ => False) follows toldL_ok hβ (lv := lvL) ?_
  rw [vc_lr0]
  by_cases hkn : 0 < l.length
  · have c1 : decide ((0 : Int) < Int.ofNat l.length) = true := decide_eq_true (by rw [Int.ofNat_eq_natCast]; omega)
    have c3 : Nat.blt 0 l.length = true := by simp; omega
    have h1 := aI_eq hl hkn
    have e1 : decide ((0 : Int) ≤ Int.tmod (l.getD 0 Enc.dflt).a 8) = true := decide_eq_true h1.2
    simp only [c1, c3, br_t, need_t, Bool.true_and, Bool.and_true, Nat.zero_add, e1]
    refine br_of (fun q => ?_) (fun q => ?_)
    · have q := of_decide_eq_true q
      rw [h1.1] at q
      have hlt : (Int.tmod (l.getD 0 Enc.dflt).a 8).toNat < (wantN l A 0).length := by rw [wantN_len, hA]; omega
      have b1 : Nat.blt (Int.tmod (l.getD 0 Enc.dflt).a 8).toNat (wantN l A 0).length = true := by simpa using hlt
      simp only [b1, need_t]
      refine Nn.next (I := fun k : Nat => k ≤ l.length ∧ k ≤ 9) (m := fun k => l.length - k) (F := fun k : Nat => F2 l A (wantN l A k) c n k) (S := fun k => S2 l A (wantN l A k) k) (p := 0) 1 ⟨hkn, by omega⟩ (by omega) ?_
      show Seen β _ _ (F2_1 l A (wantN l A 1) c n) (S2_1 l A (wantN l A 1))
      rw [want_set hl hA hkn q]
      unfold F2_1 S2_1
      rw [List.length_set]
      refine Seen.objs rfl fun j o2 h => ?_
      match j, h with
      | 0, h => cases h; exact ⟨_, rfl, rfl, fun _ _ _ h => h⟩
      | 1, h => cases h; exact ⟨_, rfl, rfl, fun _ _ _ h => h⟩
      | 2, h => cases h; exact ⟨_, rfl, rfl, fun ρ s w' h => by
          have := put_want (l := l) (k := 0) hlt ρ s w' h
          unfold rowO at this; rw [List.length_set] at this; exact this⟩
      | 3, h => cases h; exact ⟨_, rfl, rfl, fun _ _ _ h => h⟩
      | 4, h => cases h; exact ⟨_, rfl, rfl, fun _ _ _ h => h⟩
      | 5, h => cases h; exact ⟨_, rfl, rfl, fun _ _ _ h => h⟩
    · have q := of_decide_eq_false q
      rw [h1.1] at q
      refine Nn.next (I := fun k : Nat => k ≤ l.length ∧ k ≤ 9) (m := fun k => l.length - k) (F := fun k : Nat => F2 l A (wantN l A k) c n k) (S := fun k => S2 l A (wantN l A k) k) (p := 0) 1 ⟨hkn, by omega⟩ (by omega) ?_
      show Seen β _ _ (F2_1 l A (wantN l A 1) c n) (S2_1 l A (wantN l A 1))
      rw [want_same hl hA hkn q]
      exact Seen.refl _ _ _
  · have c1 : decide ((0 : Int) < Int.ofNat l.length) = false := decide_eq_false (by rw [Int.ofNat_eq_natCast]; omega)
    simp only [c1, br_f]
    exact Nn.exit (Seen.refl _ _ _) (hK (by omega))
theorem lr1 {l : List U2} {A : List Vl} {c n : Nat} {β : Bs} (hβ : β.X.length = 1) (hn : n ≤ 6) (hA : A.length = n) (h9 : l.length ≤ 9) (hl : ∀ x ∈ l, 0 ≤ x.a ∧ x.a < 256 ∧ 0 ≤ x.b ∧ x.b < 256) (K : Kt) (hK : l.length = 1 → K (.exit 2) (F2_1 l A (wantN l A 1) c n) (S2_1 l A (wantN l A 1))) (hk : 1 ≤ l.length) :
    J Try.prog β (loopOf Try.prog 5 2) (F2_1 l A (wantN l A 1) c n) (S2_1 l A (wantN l A 1)) (Nl l A c n β 1 K) := by
  refine roundJ_ok (E := 1) (lvs := slL) (un := fun _ => 0) (fuel := 100) (n := 20) (ex := fun _ _ => False) follows toldL_ok hβ (lv := lvL) ?_
  rw [vc_lr1]
  by_cases hkn : 1 < l.length
  · have c1 : decide ((1 : Int) < Int.ofNat l.length) = true := decide_eq_true (by rw [Int.ofNat_eq_natCast]; omega)
    have c3 : Nat.blt 1 l.length = true := by simp; omega
    have h1 := aI_eq hl hkn
    have e1 : decide ((0 : Int) ≤ Int.tmod (l.getD 1 Enc.dflt).a 8) = true := decide_eq_true h1.2
    simp only [c1, c3, br_t, need_t, Bool.true_and, Bool.and_true, Nat.zero_add, e1]
    refine br_of (fun q => ?_) (fun q => ?_)
    · have q := of_decide_eq_true q
      rw [h1.1] at q
      have hlt : (Int.tmod (l.getD 1 Enc.dflt).a 8).toNat < (wantN l A 1).length := by rw [wantN_len, hA]; omega
      have b1 : Nat.blt (Int.tmod (l.getD 1 Enc.dflt).a 8).toNat (wantN l A 1).length = true := by simpa using hlt
      simp only [b1, need_t]
      refine Nn.next (I := fun k : Nat => k ≤ l.length ∧ k ≤ 9) (m := fun k => l.length - k) (F := fun k : Nat => F2 l A (wantN l A k) c n k) (S := fun k => S2 l A (wantN l A k) k) (p := 1) 2 ⟨hkn, by omega⟩ (by omega) ?_
      show Seen β _ _ (F2_2 l A (wantN l A 2) c n) (S2_2 l A (wantN l A 2))
      rw [want_set hl hA hkn q]
      unfold F2_2 S2_2
      rw [List.length_set]
      refine Seen.objs rfl fun j o2 h => ?_
      match j, h with
      | 0, h => cases h; exact ⟨_, rfl, rfl, fun _ _ _ h => h⟩
      | 1, h => cases h; exact ⟨_, rfl, rfl, fun _ _ _ h => h⟩
      | 2, h => cases h; exact ⟨_, rfl, rfl, fun ρ s w' h => by
          have := put_want (l := l) (k := 1) hlt ρ s w' h
          unfold rowO at this; rw [List.length_set] at this; exact this⟩
      | 3, h => cases h; exact ⟨_, rfl, rfl, fun _ _ _ h => h⟩
      | 4, h => cases h; exact ⟨_, rfl, rfl, fun _ _ _ h => h⟩
      | 5, h => cases h; exact ⟨_, rfl, rfl, fun _ _ _ h => h⟩
    · have q := of_decide_eq_false q
      rw [h1.1] at q
      refine Nn.next (I := fun k : Nat => k ≤ l.length ∧ k ≤ 9) (m := fun k => l.length - k) (F := fun k : Nat => F2 l A (wantN l A k) c n k) (S := fun k => S2 l A (wantN l A k) k) (p := 1) 2 ⟨hkn, by omega⟩ (by omega) ?_
      show Seen β _ _ (F2_2 l A (wantN l A 2) c n) (S2_2 l A (wantN l A 2))
      rw [want_same hl hA hkn q]
      exact Seen.refl _ _ _
  · have c1 : decide ((1 : Int) < Int.ofNat l.length) = false := decide_eq_false (by rw [Int.ofNat_eq_natCast]; omega)
    simp only [c1, br_f]
    exact Nn.exit (Seen.refl _ _ _) (hK (by omega))
theorem lr2 {l : List U2} {A : List Vl} {c n : Nat} {β : Bs} (hβ : β.X.length = 1) (hn : n ≤ 6) (hA : A.length = n) (h9 : l.length ≤ 9) (hl : ∀ x ∈ l, 0 ≤ x.a ∧ x.a < 256 ∧ 0 ≤ x.b ∧ x.b < 256) (K : Kt) (hK : l.length = 2 → K (.exit 2) (F2_2 l A (wantN l A 2) c n) (S2_2 l A (wantN l A 2))) (hk : 2 ≤ l.length) :
    J Try.prog β (loopOf Try.prog 5 2) (F2_2 l A (wantN l A 2) c n) (S2_2 l A (wantN l A 2)) (Nl l A c n β 2 K) := by
  refine roundJ_ok (E := 1) (lvs := slL) (un := fun _ => 0) (fuel := 100) (n := 20) (ex := fun _ _ => False) follows toldL_ok hβ (lv := lvL) ?_
  rw [vc_lr2]
  by_cases hkn : 2 < l.length
  · have c1 : decide ((2 : Int) < Int.ofNat l.length) = true := decide_eq_true (by rw [Int.ofNat_eq_natCast]; omega)
    have c3 : Nat.blt 2 l.length = true := by simp; omega
    have h1 := aI_eq hl hkn
    have e1 : decide ((0 : Int) ≤ Int.tmod (l.getD 2 Enc.dflt).a 8) = true := decide_eq_true h1.2
    simp only [c1, c3, br_t, need_t, Bool.true_and, Bool.and_true, Nat.zero_add, e1]
    refine br_of (fun q => ?_) (fun q => ?_)
    · have q := of_decide_eq_true q
      rw [h1.1] at q
      have hlt : (Int.tmod (l.getD 2 Enc.dflt).a 8).toNat < (wantN l A 2).length := by rw [wantN_len, hA]; omega
      have b1 : Nat.blt (Int.tmod (l.getD 2 Enc.dflt).a 8).toNat (wantN l A 2).length = true := by simpa using hlt
      simp only [b1, need_t]
      refine Nn.next (I := fun k : Nat => k ≤ l.length ∧ k ≤ 9) (m := fun k => l.length - k) (F := fun k : Nat => F2 l A (wantN l A k) c n k) (S := fun k => S2 l A (wantN l A k) k) (p := 2) 3 ⟨hkn, by omega⟩ (by omega) ?_
      show Seen β _ _ (F2_3 l A (wantN l A 3) c n) (S2_3 l A (wantN l A 3))
      rw [want_set hl hA hkn q]
      unfold F2_3 S2_3
      rw [List.length_set]
      refine Seen.objs rfl fun j o2 h => ?_
      match j, h with
      | 0, h => cases h; exact ⟨_, rfl, rfl, fun _ _ _ h => h⟩
      | 1, h => cases h; exact ⟨_, rfl, rfl, fun _ _ _ h => h⟩
      | 2, h => cases h; exact ⟨_, rfl, rfl, fun ρ s w' h => by
          have := put_want (l := l) (k := 2) hlt ρ s w' h
          unfold rowO at this; rw [List.length_set] at this; exact this⟩
      | 3, h => cases h; exact ⟨_, rfl, rfl, fun _ _ _ h => h⟩
      | 4, h => cases h; exact ⟨_, rfl, rfl, fun _ _ _ h => h⟩
      | 5, h => cases h; exact ⟨_, rfl, rfl, fun _ _ _ h => h⟩
    · have q := of_decide_eq_false q
      rw [h1.1] at q
      refine Nn.next (I := fun k : Nat => k ≤ l.length ∧ k ≤ 9) (m := fun k => l.length - k) (F := fun k : Nat => F2 l A (wantN l A k) c n k) (S := fun k => S2 l A (wantN l A k) k) (p := 2) 3 ⟨hkn, by omega⟩ (by omega) ?_
      show Seen β _ _ (F2_3 l A (wantN l A 3) c n) (S2_3 l A (wantN l A 3))
      rw [want_same hl hA hkn q]
      exact Seen.refl _ _ _
  · have c1 : decide ((2 : Int) < Int.ofNat l.length) = false := decide_eq_false (by rw [Int.ofNat_eq_natCast]; omega)
    simp only [c1, br_f]
    exact Nn.exit (Seen.refl _ _ _) (hK (by omega))
theorem lr3 {l : List U2} {A : List Vl} {c n : Nat} {β : Bs} (hβ : β.X.length = 1) (hn : n ≤ 6) (hA : A.length = n) (h9 : l.length ≤ 9) (hl : ∀ x ∈ l, 0 ≤ x.a ∧ x.a < 256 ∧ 0 ≤ x.b ∧ x.b < 256) (K : Kt) (hK : l.length = 3 → K (.exit 2) (F2_3 l A (wantN l A 3) c n) (S2_3 l A (wantN l A 3))) (hk : 3 ≤ l.length) :
    J Try.prog β (loopOf Try.prog 5 2) (F2_3 l A (wantN l A 3) c n) (S2_3 l A (wantN l A 3)) (Nl l A c n β 3 K) := by
  refine roundJ_ok (E := 1) (lvs := slL) (un := fun _ => 0) (fuel := 100) (n := 20) (ex := fun _ _ => False) follows toldL_ok hβ (lv := lvL) ?_
  rw [vc_lr3]
  by_cases hkn : 3 < l.length
  · have c1 : decide ((3 : Int) < Int.ofNat l.length) = true := decide_eq_true (by rw [Int.ofNat_eq_natCast]; omega)
    have c3 : Nat.blt 3 l.length = true := by simp; omega
    have h1 := aI_eq hl hkn
    have e1 : decide ((0 : Int) ≤ Int.tmod (l.getD 3 Enc.dflt).a 8) = true := decide_eq_true h1.2
    simp only [c1, c3, br_t, need_t, Bool.true_and, Bool.and_true, Nat.zero_add, e1]
    refine br_of (fun q => ?_) (fun q => ?_)
    · have q := of_decide_eq_true q
      rw [h1.1] at q
      have hlt : (Int.tmod (l.getD 3 Enc.dflt).a 8).toNat < (wantN l A 3).length := by rw [wantN_len, hA]; omega
      have b1 : Nat.blt (Int.tmod (l.getD 3 Enc.dflt).a 8).toNat (wantN l A 3).length = true := by simpa using hlt
      simp only [b1, need_t]
      refine Nn.next (I := fun k : Nat => k ≤ l.length ∧ k ≤ 9) (m := fun k => l.length - k) (F := fun k : Nat => F2 l A (wantN l A k) c n k) (S := fun k => S2 l A (wantN l A k) k) (p := 3) 4 ⟨hkn, by omega⟩ (by omega) ?_
      show Seen β _ _ (F2_4 l A (wantN l A 4) c n) (S2_4 l A (wantN l A 4))
      rw [want_set hl hA hkn q]
      unfold F2_4 S2_4
      rw [List.length_set]
      refine Seen.objs rfl fun j o2 h => ?_
      match j, h with
      | 0, h => cases h; exact ⟨_, rfl, rfl, fun _ _ _ h => h⟩
      | 1, h => cases h; exact ⟨_, rfl, rfl, fun _ _ _ h => h⟩
      | 2, h => cases h; exact ⟨_, rfl, rfl, fun ρ s w' h => by
          have := put_want (l := l) (k := 3) hlt ρ s w' h
          unfold rowO at this; rw [List.length_set] at this; exact this⟩
      | 3, h => cases h; exact ⟨_, rfl, rfl, fun _ _ _ h => h⟩
      | 4, h => cases h; exact ⟨_, rfl, rfl, fun _ _ _ h => h⟩
      | 5, h => cases h; exact ⟨_, rfl, rfl, fun _ _ _ h => h⟩
      | 6, h => cases h; exact ⟨_, rfl, rfl, fun _ _ _ h => h⟩
      | 7, h => cases h; exact ⟨_, rfl, rfl, fun _ _ _ h => h⟩
    · have q := of_decide_eq_false q
      rw [h1.1] at q
      refine Nn.next (I := fun k : Nat => k ≤ l.length ∧ k ≤ 9) (m := fun k => l.length - k) (F := fun k : Nat => F2 l A (wantN l A k) c n k) (S := fun k => S2 l A (wantN l A k) k) (p := 3) 4 ⟨hkn, by omega⟩ (by omega) ?_
      show Seen β _ _ (F2_4 l A (wantN l A 4) c n) (S2_4 l A (wantN l A 4))
      rw [want_same hl hA hkn q]
      exact Seen.refl _ _ _
  · have c1 : decide ((3 : Int) < Int.ofNat l.length) = false := decide_eq_false (by rw [Int.ofNat_eq_natCast]; omega)
    simp only [c1, br_f]
    exact Nn.exit (Seen.refl _ _ _) (hK (by omega))
theorem lr4 {l : List U2} {A : List Vl} {c n : Nat} {β : Bs} (hβ : β.X.length = 1) (hn : n ≤ 6) (hA : A.length = n) (h9 : l.length ≤ 9) (hl : ∀ x ∈ l, 0 ≤ x.a ∧ x.a < 256 ∧ 0 ≤ x.b ∧ x.b < 256) (K : Kt) (hK : l.length = 4 → K (.exit 2) (F2_4 l A (wantN l A 4) c n) (S2_4 l A (wantN l A 4))) (hk : 4 ≤ l.length) :
    J Try.prog β (loopOf Try.prog 5 2) (F2_4 l A (wantN l A 4) c n) (S2_4 l A (wantN l A 4)) (Nl l A c n β 4 K) := by
  refine roundJ_ok (E := 1) (lvs := slL) (un := fun _ => 0) (fuel := 100) (n := 20) (ex := fun _ _ => False) follows toldL_ok hβ (lv := lvL) ?_
  rw [vc_lr4]
  by_cases hkn : 4 < l.length
  · have c1 : decide ((4 : Int) < Int.ofNat l.length) = true := decide_eq_true (by rw [Int.ofNat_eq_natCast]; omega)
    have c3 : Nat.blt 4 l.length = true := by simp; omega
    have h1 := aI_eq hl hkn
    have e1 : decide ((0 : Int) ≤ Int.tmod (l.getD 4 Enc.dflt).a 8) = true := decide_eq_true h1.2
    simp only [c1, c3, br_t, need_t, Bool.true_and, Bool.and_true, Nat.zero_add, e1]
    refine br_of (fun q => ?_) (fun q => ?_)
    · have q := of_decide_eq_true q
      rw [h1.1] at q
      have hlt : (Int.tmod (l.getD 4 Enc.dflt).a 8).toNat < (wantN l A 4).length := by rw [wantN_len, hA]; omega
      have b1 : Nat.blt (Int.tmod (l.getD 4 Enc.dflt).a 8).toNat (wantN l A 4).length = true := by simpa using hlt
      simp only [b1, need_t]
      refine Nn.next (I := fun k : Nat => k ≤ l.length ∧ k ≤ 9) (m := fun k => l.length - k) (F := fun k : Nat => F2 l A (wantN l A k) c n k) (S := fun k => S2 l A (wantN l A k) k) (p := 4) 5 ⟨hkn, by omega⟩ (by omega) ?_
      show Seen β _ _ (F2_5 l A (wantN l A 5) c n) (S2_5 l A (wantN l A 5))
      rw [want_set hl hA hkn q]
      unfold F2_5 S2_5
      rw [List.length_set]
      refine Seen.objs rfl fun j o2 h => ?_
      match j, h with
      | 0, h => cases h; exact ⟨_, rfl, rfl, fun _ _ _ h => h⟩
      | 1, h => cases h; exact ⟨_, rfl, rfl, fun _ _ _ h => h⟩
      | 2, h => cases h; exact ⟨_, rfl, rfl, fun ρ s w' h => by
          have := put_want (l := l) (k := 4) hlt ρ s w' h
          unfold rowO at this; rw [List.length_set] at this; exact this⟩
      | 3, h => cases h; exact ⟨_, rfl, rfl, fun _ _ _ h => h⟩
      | 4, h => cases h; exact ⟨_, rfl, rfl, fun _ _ _ h => h⟩
      | 5, h => cases h; exact ⟨_, rfl, rfl, fun _ _ _ h => h⟩
      | 6, h => cases h; exact ⟨_, rfl, rfl, fun _ _ _ h => h⟩
      | 7, h => cases h; exact ⟨_, rfl, rfl, fun _ _ _ h => h⟩
    · have q := of_decide_eq_false q
      rw [h1.1] at q
      refine Nn.next (I := fun k : Nat => k ≤ l.length ∧ k ≤ 9) (m := fun k => l.length - k) (F := fun k : Nat => F2 l A (wantN l A k) c n k) (S := fun k => S2 l A (wantN l A k) k) (p := 4) 5 ⟨hkn, by omega⟩ (by omega) ?_
      show Seen β _ _ (F2_5 l A (wantN l A 5) c n) (S2_5 l A (wantN l A 5))
      rw [want_same hl hA hkn q]
      exact Seen.refl _ _ _
  · have c1 : decide ((4 : Int) < Int.ofNat l.length) = false := decide_eq_false (by rw [Int.ofNat_eq_natCast]; omega)
    simp only [c1, br_f]
    exact Nn.exit (Seen.refl _ _ _) (hK (by omega))
theorem lr5 {l : List U2} {A : List Vl} {c n : Nat} {β : Bs} (hβ : β.X.length = 1) (hn : n ≤ 6) (hA : A.length = n) (h9 : l.length ≤ 9) (hl : ∀ x ∈ l, 0 ≤ x.a ∧ x.a < 256 ∧ 0 ≤ x.b ∧ x.b < 256) (K : Kt) (hK : l.length = 5 → K (.exit 2) (F2_5 l A (wantN l A 5) c n) (S2_5 l A (wantN l A 5))) (hk : 5 ≤ l.length) :
    J Try.prog β (loopOf Try.prog 5 2) (F2_5 l A (wantN l A 5) c n) (S2_5 l A (wantN l A 5)) (Nl l A c n β 5 K) := by
  refine roundJ_ok (E := 1) (lvs := slL) (un := fun _ => 0) (fuel := 100) (n := 20) (ex := fun _ _ => False) follows toldL_ok hβ (lv := lvL) ?_
  rw [vc_lr5]
  by_cases hkn : 5 < l.length
  · have c1 : decide ((5 : Int) < Int.ofNat l.length) = true := decide_eq_true (by rw [Int.ofNat_eq_natCast]; omega)
    have c3 : Nat.blt 5 l.length = true := by simp; omega
    have h1 := aI_eq hl hkn
    have e1 : decide ((0 : Int) ≤ Int.tmod (l.getD 5 Enc.dflt).a 8) = true := decide_eq_true h1.2
    simp only [c1, c3, br_t, need_t, Bool.true_and, Bool.and_true, Nat.zero_add, e1]
    refine br_of (fun q => ?_) (fun q => ?_)
    · have q := of_decide_eq_true q
      rw [h1.1] at q
      have hlt : (Int.tmod (l.getD 5 Enc.dflt).a 8).toNat < (wantN l A 5).length := by rw [wantN_len, hA]; omega
      have b1 : Nat.blt (Int.tmod (l.getD 5 Enc.dflt).a 8).toNat (wantN l A 5).length = true := by simpa using hlt
      simp only [b1, need_t]
      refine Nn.next (I := fun k : Nat => k ≤ l.length ∧ k ≤ 9) (m := fun k => l.length - k) (F := fun k : Nat => F2 l A (wantN l A k) c n k) (S := fun k => S2 l A (wantN l A k) k) (p := 5) 6 ⟨hkn, by omega⟩ (by omega) ?_
      show Seen β _ _ (F2_6 l A (wantN l A 6) c n) (S2_6 l A (wantN l A 6))
      rw [want_set hl hA hkn q]
      unfold F2_6 S2_6
      rw [List.length_set]
      refine Seen.objs rfl fun j o2 h => ?_
      match j, h with
      | 0, h => cases h; exact ⟨_, rfl, rfl, fun _ _ _ h => h⟩
      | 1, h => cases h; exact ⟨_, rfl, rfl, fun _ _ _ h => h⟩
      | 2, h => cases h; exact ⟨_, rfl, rfl, fun ρ s w' h => by
          have := put_want (l := l) (k := 5) hlt ρ s w' h
          unfold rowO at this; rw [List.length_set] at this; exact this⟩
      | 3, h => cases h; exact ⟨_, rfl, rfl, fun _ _ _ h => h⟩
      | 4, h => cases h; exact ⟨_, rfl, rfl, fun _ _ _ h => h⟩
      | 5, h => cases h; exact ⟨_, rfl, rfl, fun _ _ _ h => h⟩
      | 6, h => cases h; exact ⟨_, rfl, rfl, fun _ _ _ h => h⟩
      | 7, h => cases h; exact ⟨_, rfl, rfl, fun _ _ _ h => h⟩
    · have q := of_decide_eq_false q
      rw [h1.1] at q
      refine Nn.next (I := fun k : Nat => k ≤ l.length ∧ k ≤ 9) (m := fun k => l.length - k) (F := fun k : Nat => F2 l A (wantN l A k) c n k) (S := fun k => S2 l A (wantN l A k) k) (p := 5) 6 ⟨hkn, by omega⟩ (by omega) ?_
      show Seen β _ _ (F2_6 l A (wantN l A 6) c n) (S2_6 l A (wantN l A 6))
      rw [want_same hl hA hkn q]
      exact Seen.refl _ _ _
  · have c1 : decide ((5 : Int) < Int.ofNat l.length) = false := decide_eq_false (by rw [Int.ofNat_eq_natCast]; omega)
    simp only [c1, br_f]
    exact Nn.exit (Seen.refl _ _ _) (hK (by omega))
theorem lr6 {l : List U2} {A : List Vl} {c n : Nat} {β : Bs} (hβ : β.X.length = 1) (hn : n ≤ 6) (hA : A.length = n) (h9 : l.length ≤ 9) (hl : ∀ x ∈ l, 0 ≤ x.a ∧ x.a < 256 ∧ 0 ≤ x.b ∧ x.b < 256) (K : Kt) (hK : l.length = 6 → K (.exit 2) (F2_6 l A (wantN l A 6) c n) (S2_6 l A (wantN l A 6))) (hk : 6 ≤ l.length) :
    J Try.prog β (loopOf Try.prog 5 2) (F2_6 l A (wantN l A 6) c n) (S2_6 l A (wantN l A 6)) (Nl l A c n β 6 K) := by
  refine roundJ_ok (E := 1) (lvs := slL) (un := fun _ => 0) (fuel := 100) (n := 20) (ex := fun _ _ => False) follows toldL_ok hβ (lv := lvL) ?_
  rw [vc_lr6]
  by_cases hkn : 6 < l.length
  · have c1 : decide ((6 : Int) < Int.ofNat l.length) = true := decide_eq_true (by rw [Int.ofNat_eq_natCast]; omega)
    have c3 : Nat.blt 6 l.length = true := by simp; omega
    have h1 := aI_eq hl hkn
    have e1 : decide ((0 : Int) ≤ Int.tmod (l.getD 6 Enc.dflt).a 8) = true := decide_eq_true h1.2
    simp only [c1, c3, br_t, need_t, Bool.true_and, Bool.and_true, Nat.zero_add, e1]
    refine br_of (fun q => ?_) (fun q => ?_)
    · have q := of_decide_eq_true q
      rw [h1.1] at q
      have hlt : (Int.tmod (l.getD 6 Enc.dflt).a 8).toNat < (wantN l A 6).length := by rw [wantN_len, hA]; omega
      have b1 : Nat.blt (Int.tmod (l.getD 6 Enc.dflt).a 8).toNat (wantN l A 6).length = true := by simpa using hlt
      simp only [b1, need_t]
      refine Nn.next (I := fun k : Nat => k ≤ l.length ∧ k ≤ 9) (m := fun k => l.length - k) (F := fun k : Nat => F2 l A (wantN l A k) c n k) (S := fun k => S2 l A (wantN l A k) k) (p := 6) 7 ⟨hkn, by omega⟩ (by omega) ?_
      show Seen β _ _ (F2_7 l A (wantN l A 7) c n) (S2_7 l A (wantN l A 7))
      rw [want_set hl hA hkn q]
      unfold F2_7 S2_7
      rw [List.length_set]
      refine Seen.objs rfl fun j o2 h => ?_
      match j, h with
      | 0, h => cases h; exact ⟨_, rfl, rfl, fun _ _ _ h => h⟩
      | 1, h => cases h; exact ⟨_, rfl, rfl, fun _ _ _ h => h⟩
      | 2, h => cases h; exact ⟨_, rfl, rfl, fun ρ s w' h => by
          have := put_want (l := l) (k := 6) hlt ρ s w' h
          unfold rowO at this; rw [List.length_set] at this; exact this⟩
      | 3, h => cases h; exact ⟨_, rfl, rfl, fun _ _ _ h => h⟩
      | 4, h => cases h; exact ⟨_, rfl, rfl, fun _ _ _ h => h⟩
      | 5, h => cases h; exact ⟨_, rfl, rfl, fun _ _ _ h => h⟩
      | 6, h => cases h; exact ⟨_, rfl, rfl, fun _ _ _ h => h⟩
      | 7, h => cases h; exact ⟨_, rfl, rfl, fun _ _ _ h => h⟩
      | 8, h => cases h; exact ⟨_, rfl, rfl, fun _ _ _ h => h⟩
      | 9, h => cases h; exact ⟨_, rfl, rfl, fun _ _ _ h => h⟩
    · have q := of_decide_eq_false q
      rw [h1.1] at q
      refine Nn.next (I := fun k : Nat => k ≤ l.length ∧ k ≤ 9) (m := fun k => l.length - k) (F := fun k : Nat => F2 l A (wantN l A k) c n k) (S := fun k => S2 l A (wantN l A k) k) (p := 6) 7 ⟨hkn, by omega⟩ (by omega) ?_
      show Seen β _ _ (F2_7 l A (wantN l A 7) c n) (S2_7 l A (wantN l A 7))
      rw [want_same hl hA hkn q]
      exact Seen.refl _ _ _
  · have c1 : decide ((6 : Int) < Int.ofNat l.length) = false := decide_eq_false (by rw [Int.ofNat_eq_natCast]; omega)
    simp only [c1, br_f]
    exact Nn.exit (Seen.refl _ _ _) (hK (by omega))
theorem lr7 {l : List U2} {A : List Vl} {c n : Nat} {β : Bs} (hβ : β.X.length = 1) (hn : n ≤ 6) (hA : A.length = n) (h9 : l.length ≤ 9) (hl : ∀ x ∈ l, 0 ≤ x.a ∧ x.a < 256 ∧ 0 ≤ x.b ∧ x.b < 256) (K : Kt) (hK : l.length = 7 → K (.exit 2) (F2_7 l A (wantN l A 7) c n) (S2_7 l A (wantN l A 7))) (hk : 7 ≤ l.length) :
    J Try.prog β (loopOf Try.prog 5 2) (F2_7 l A (wantN l A 7) c n) (S2_7 l A (wantN l A 7)) (Nl l A c n β 7 K) := by
  refine roundJ_ok (E := 1) (lvs := slL) (un := fun _ => 0) (fuel := 100) (n := 20) (ex := fun _ _ => False) follows toldL_ok hβ (lv := lvL) ?_
  rw [vc_lr7]
  by_cases hkn : 7 < l.length
  · have c1 : decide ((7 : Int) < Int.ofNat l.length) = true := decide_eq_true (by rw [Int.ofNat_eq_natCast]; omega)
    have c3 : Nat.blt 7 l.length = true := by simp; omega
    have h1 := aI_eq hl hkn
    have e1 : decide ((0 : Int) ≤ Int.tmod (l.getD 7 Enc.dflt).a 8) = true := decide_eq_true h1.2
    simp only [c1, c3, br_t, need_t, Bool.true_and, Bool.and_true, Nat.zero_add, e1]
    refine br_of (fun q => ?_) (fun q => ?_)
    · have q := of_decide_eq_true q
      rw [h1.1] at q
      have hlt : (Int.tmod (l.getD 7 Enc.dflt).a 8).toNat < (wantN l A 7).length := by rw [wantN_len, hA]; omega
      have b1 : Nat.blt (Int.tmod (l.getD 7 Enc.dflt).a 8).toNat (wantN l A 7).length = true := by simpa using hlt
      simp only [b1, need_t]
      refine Nn.next (I := fun k : Nat => k ≤ l.length ∧ k ≤ 9) (m := fun k => l.length - k) (F := fun k : Nat => F2 l A (wantN l A k) c n k) (S := fun k => S2 l A (wantN l A k) k) (p := 7) 8 ⟨hkn, by omega⟩ (by omega) ?_
      show Seen β _ _ (F2_8 l A (wantN l A 8) c n) (S2_8 l A (wantN l A 8))
      rw [want_set hl hA hkn q]
      unfold F2_8 S2_8
      rw [List.length_set]
      refine Seen.objs rfl fun j o2 h => ?_
      match j, h with
      | 0, h => cases h; exact ⟨_, rfl, rfl, fun _ _ _ h => h⟩
      | 1, h => cases h; exact ⟨_, rfl, rfl, fun _ _ _ h => h⟩
      | 2, h => cases h; exact ⟨_, rfl, rfl, fun ρ s w' h => by
          have := put_want (l := l) (k := 7) hlt ρ s w' h
          unfold rowO at this; rw [List.length_set] at this; exact this⟩
      | 3, h => cases h; exact ⟨_, rfl, rfl, fun _ _ _ h => h⟩
      | 4, h => cases h; exact ⟨_, rfl, rfl, fun _ _ _ h => h⟩
      | 5, h => cases h; exact ⟨_, rfl, rfl, fun _ _ _ h => h⟩
      | 6, h => cases h; exact ⟨_, rfl, rfl, fun _ _ _ h => h⟩
      | 7, h => cases h; exact ⟨_, rfl, rfl, fun _ _ _ h => h⟩
      | 8, h => cases h; exact ⟨_, rfl, rfl, fun _ _ _ h => h⟩
      | 9, h => cases h; exact ⟨_, rfl, rfl, fun _ _ _ h => h⟩
    · have q := of_decide_eq_false q
      rw [h1.1] at q
      refine Nn.next (I := fun k : Nat => k ≤ l.length ∧ k ≤ 9) (m := fun k => l.length - k) (F := fun k : Nat => F2 l A (wantN l A k) c n k) (S := fun k => S2 l A (wantN l A k) k) (p := 7) 8 ⟨hkn, by omega⟩ (by omega) ?_
      show Seen β _ _ (F2_8 l A (wantN l A 8) c n) (S2_8 l A (wantN l A 8))
      rw [want_same hl hA hkn q]
      exact Seen.refl _ _ _
  · have c1 : decide ((7 : Int) < Int.ofNat l.length) = false := decide_eq_false (by rw [Int.ofNat_eq_natCast]; omega)
    simp only [c1, br_f]
    exact Nn.exit (Seen.refl _ _ _) (hK (by omega))
theorem lr8 {l : List U2} {A : List Vl} {c n : Nat} {β : Bs} (hβ : β.X.length = 1) (hn : n ≤ 6) (hA : A.length = n) (h9 : l.length ≤ 9) (hl : ∀ x ∈ l, 0 ≤ x.a ∧ x.a < 256 ∧ 0 ≤ x.b ∧ x.b < 256) (K : Kt) (hK : l.length = 8 → K (.exit 2) (F2_8 l A (wantN l A 8) c n) (S2_8 l A (wantN l A 8))) (hk : 8 ≤ l.length) :
    J Try.prog β (loopOf Try.prog 5 2) (F2_8 l A (wantN l A 8) c n) (S2_8 l A (wantN l A 8)) (Nl l A c n β 8 K) := by
  refine roundJ_ok (E := 1) (lvs := slL) (un := fun _ => 0) (fuel := 100) (n := 20) (ex := fun _ _ => False) follows toldL_ok hβ (lv := lvL) ?_
  rw [vc_lr8]
  by_cases hkn : 8 < l.length
  · have c1 : decide ((8 : Int) < Int.ofNat l.length) = true := decide_eq_true (by rw [Int.ofNat_eq_natCast]; omega)
    have c3 : Nat.blt 8 l.length = true := by simp; omega
    have h1 := aI_eq hl hkn
    have e1 : decide ((0 : Int) ≤ Int.tmod (l.getD 8 Enc.dflt).a 8) = true := decide_eq_true h1.2
    simp only [c1, c3, br_t, need_t, Bool.true_and, Bool.and_true, Nat.zero_add, e1]
    refine br_of (fun q => ?_) (fun q => ?_)
    · have q := of_decide_eq_true q
      rw [h1.1] at q
      have hlt : (Int.tmod (l.getD 8 Enc.dflt).a 8).toNat < (wantN l A 8).length := by rw [wantN_len, hA]; omega
      have b1 : Nat.blt (Int.tmod (l.getD 8 Enc.dflt).a 8).toNat (wantN l A 8).length = true := by simpa using hlt
      simp only [b1, need_t]
      refine Nn.next (I := fun k : Nat => k ≤ l.length ∧ k ≤ 9) (m := fun k => l.length - k) (F := fun k : Nat => F2 l A (wantN l A k) c n k) (S := fun k => S2 l A (wantN l A k) k) (p := 8) 9 ⟨hkn, by omega⟩ (by omega) ?_
      show Seen β _ _ (F2_9 l A (wantN l A 9) c n) (S2_9 l A (wantN l A 9))
      rw [want_set hl hA hkn q]
      unfold F2_9 S2_9
      rw [List.length_set]
      refine Seen.objs rfl fun j o2 h => ?_
      match j, h with
      | 0, h => cases h; exact ⟨_, rfl, rfl, fun _ _ _ h => h⟩
      | 1, h => cases h; exact ⟨_, rfl, rfl, fun _ _ _ h => h⟩
      | 2, h => cases h; exact ⟨_, rfl, rfl, fun ρ s w' h => by
          have := put_want (l := l) (k := 8) hlt ρ s w' h
          unfold rowO at this; rw [List.length_set] at this; exact this⟩
      | 3, h => cases h; exact ⟨_, rfl, rfl, fun _ _ _ h => h⟩
      | 4, h => cases h; exact ⟨_, rfl, rfl, fun _ _ _ h => h⟩
      | 5, h => cases h; exact ⟨_, rfl, rfl, fun _ _ _ h => h⟩
      | 6, h => cases h; exact ⟨_, rfl, rfl, fun _ _ _ h => h⟩
      | 7, h => cases h; exact ⟨_, rfl, rfl, fun _ _ _ h => h⟩
      | 8, h => cases h; exact ⟨_, rfl, rfl, fun _ _ _ h => h⟩
      | 9, h => cases h; exact ⟨_, rfl, rfl, fun _ _ _ h => h⟩
    · have q := of_decide_eq_false q
      rw [h1.1] at q
      refine Nn.next (I := fun k : Nat => k ≤ l.length ∧ k ≤ 9) (m := fun k => l.length - k) (F := fun k : Nat => F2 l A (wantN l A k) c n k) (S := fun k => S2 l A (wantN l A k) k) (p := 8) 9 ⟨hkn, by omega⟩ (by omega) ?_
      show Seen β _ _ (F2_9 l A (wantN l A 9) c n) (S2_9 l A (wantN l A 9))
      rw [want_same hl hA hkn q]
      exact Seen.refl _ _ _
  · have c1 : decide ((8 : Int) < Int.ofNat l.length) = false := decide_eq_false (by rw [Int.ofNat_eq_natCast]; omega)
    simp only [c1, br_f]
    exact Nn.exit (Seen.refl _ _ _) (hK (by omega))
theorem lr9 {l : List U2} {A : List Vl} {c n : Nat} {β : Bs} (hβ : β.X.length = 1) (hn : n ≤ 6) (hA : A.length = n) (h9 : l.length ≤ 9) (hl : ∀ x ∈ l, 0 ≤ x.a ∧ x.a < 256 ∧ 0 ≤ x.b ∧ x.b < 256) (K : Kt) (hK : l.length = 9 → K (.exit 2) (F2_9 l A (wantN l A 9) c n) (S2_9 l A (wantN l A 9))) (hk : 9 ≤ l.length) :
    J Try.prog β (loopOf Try.prog 5 2) (F2_9 l A (wantN l A 9) c n) (S2_9 l A (wantN l A 9)) (Nl l A c n β 9 K) := by
  refine roundJ_ok (E := 1) (lvs := slL) (un := fun _ => 0) (fuel := 100) (n := 20) (ex := fun _ _ => False) follows toldL_ok hβ (lv := lvL) ?_
  rw [vc_lr9]
  have c1 : decide ((9 : Int) < Int.ofNat l.length) = false := decide_eq_false (by rw [Int.ofNat_eq_natCast]; omega)
  simp only [c1, br_f]
  exact Nn.exit (Seen.refl _ _ _) (hK (by omega))
theorem dr1_upd {w : Wr} {out : List Vl} {k : Nat} (h : k < w.v.length) : dr1 w out k = updD out (w.a.getD k Enc.dflt) (w.v.getD k Enc.dflt) := by
  unfold dr1 updD
  by_cases h1 : 0 ≤ w.a.getD k Enc.dflt ∧ w.a.getD k Enc.dflt < Int.ofNat out.length
  · rw [if_pos ⟨h1.1, h1.2, h⟩, if_pos h1]
  · rw [if_neg (fun h2 => h1 ⟨h2.1, h2.2.1⟩), if_neg h1]
theorem w1 (out : List Vl) (a : Int) (v : Vl) : drW ⟨0, 0, [a], 0, [v], 0⟩ out 1 = updD out a v := by
  show dr1 _ out 0 = _
  rw [dr1_upd (by simp)]; rfl
theorem w2 (out : List Vl) (a b : Int) (u v : Vl) : drW ⟨0, 0, [a, b], 0, [u, v], 0⟩ out 2 = updD (updD out a u) b v := by
  show dr1 _ (dr1 _ out 0) 1 = _
  rw [dr1_upd (by simp), dr1_upd (by simp)]; rfl
theorem w3 (out : List Vl) (a b d : Int) (u v x : Vl) : drW ⟨0, 0, [a, b, d], 0, [u, v, x], 0⟩ out 3 = updD (updD (updD out a u) b v) d x := by
  show dr1 _ (dr1 _ (dr1 _ out 0) 1) 2 = _
  rw [dr1_upd (by simp), dr1_upd (by simp), dr1_upd (by simp)]; rfl
theorem ok2w {t : Td} {A : List Vl} (h1 : okT Wr t = true) (h2 : (listT Wr t).all (okA Wr) = true) (hA : A.length ≤ 6) : ok2 Wr Vl (fun l _ _ _ => l.all (okA Wr)) [Ta.cell t, Ta.cell (Td.fr 3 A.length 0 (encL A))] = true := by
  show (okT Wr t && okT Vl (tdL A 0) && (listT Wr t).all (okA Wr)) = true
  rw [h1, h2, okT_tdL (allV _) (by omega) (by omega)]; rfl
theorem fin2 {X W : List Vl} (h : X = W) (hW : W.length ≤ 6) : need (ok2 Vl Vl (fun _ _ _ _ => true) [Ta.cell (Td.fr 3 X.length 0 (encL X)), Ta.cell (Td.fr 3 W.length 0 (encL W))]) (need (sameVs X W) True) := by
  subst h
  exact need_of (ok2_vl (by omega) (by omega) (by omega) (by omega)) (need_of (sameVs_self _) trivial)
theorem fin_0 (l : List U2) (A : List Vl) : drL ([] : List Wr) A 0 = wantN l A 0 := by
  rfl
theorem fin_1 (l : List U2) (A : List Vl) : drL ([⟨0, 0, [aI l 0], 0, [vI l 0], 0⟩] : List Wr) A 1 = wantN l A 1 := by
  show drW ⟨0, 0, [aI l 0], 0, [vI l 0], 0⟩ A 1 = _
  rw [w1]; rfl
theorem fin_2 (l : List U2) (A : List Vl) : drL ([⟨0, 0, [aI l 0, aI l 1], 0, [vI l 0, vI l 1], 0⟩] : List Wr) A 1 = wantN l A 2 := by
  show drW ⟨0, 0, [aI l 0, aI l 1], 0, [vI l 0, vI l 1], 0⟩ A 2 = _
  rw [w2]; rfl
theorem fin_3 (l : List U2) (A : List Vl) : drL ([⟨0, 0, [aI l 0, aI l 1, aI l 2], 0, [vI l 0, vI l 1, vI l 2], 0⟩] : List Wr) A 1 = wantN l A 3 := by
  show drW ⟨0, 0, [aI l 0, aI l 1, aI l 2], 0, [vI l 0, vI l 1, vI l 2], 0⟩ A 3 = _
  rw [w3]; rfl
theorem fin_4 (l : List U2) (A : List Vl) : drL ([⟨0, 0, [aI l 0, aI l 1, aI l 2], 0, [vI l 0, vI l 1, vI l 2], 0⟩, ⟨0, 0, [aI l 3], 0, [vI l 3], 0⟩] : List Wr) A 2 = wantN l A 4 := by
  show drW ⟨0, 0, [aI l 3], 0, [vI l 3], 0⟩ (drW ⟨0, 0, [aI l 0, aI l 1, aI l 2], 0, [vI l 0, vI l 1, vI l 2], 0⟩ A 3) 1 = _
  rw [w1, w3]; rfl
theorem fin_5 (l : List U2) (A : List Vl) : drL ([⟨0, 0, [aI l 0, aI l 1, aI l 2], 0, [vI l 0, vI l 1, vI l 2], 0⟩, ⟨0, 0, [aI l 3, aI l 4], 0, [vI l 3, vI l 4], 0⟩] : List Wr) A 2 = wantN l A 5 := by
  show drW ⟨0, 0, [aI l 3, aI l 4], 0, [vI l 3, vI l 4], 0⟩ (drW ⟨0, 0, [aI l 0, aI l 1, aI l 2], 0, [vI l 0, vI l 1, vI l 2], 0⟩ A 3) 2 = _
  rw [w2, w3]; rfl
theorem fin_6 (l : List U2) (A : List Vl) : drL ([⟨0, 0, [aI l 0, aI l 1, aI l 2], 0, [vI l 0, vI l 1, vI l 2], 0⟩, ⟨0, 0, [aI l 3, aI l 4, aI l 5], 0, [vI l 3, vI l 4, vI l 5], 0⟩] : List Wr) A 2 = wantN l A 6 := by
  show drW ⟨0, 0, [aI l 3, aI l 4, aI l 5], 0, [vI l 3, vI l 4, vI l 5], 0⟩ (drW ⟨0, 0, [aI l 0, aI l 1, aI l 2], 0, [vI l 0, vI l 1, vI l 2], 0⟩ A 3) 3 = _
  rw [w3, w3]; rfl
theorem fin_7 (l : List U2) (A : List Vl) : drL ([⟨0, 0, [aI l 0, aI l 1, aI l 2], 0, [vI l 0, vI l 1, vI l 2], 0⟩, ⟨0, 0, [aI l 3, aI l 4, aI l 5], 0, [vI l 3, vI l 4, vI l 5], 0⟩, ⟨0, 0, [aI l 6], 0, [vI l 6], 0⟩] : List Wr) A 3 = wantN l A 7 := by
  show drW ⟨0, 0, [aI l 6], 0, [vI l 6], 0⟩ (drW ⟨0, 0, [aI l 3, aI l 4, aI l 5], 0, [vI l 3, vI l 4, vI l 5], 0⟩ (drW ⟨0, 0, [aI l 0, aI l 1, aI l 2], 0, [vI l 0, vI l 1, vI l 2], 0⟩ A 3) 3) 1 = _
  rw [w1, w3, w3]; rfl
theorem fin_8 (l : List U2) (A : List Vl) : drL ([⟨0, 0, [aI l 0, aI l 1, aI l 2], 0, [vI l 0, vI l 1, vI l 2], 0⟩, ⟨0, 0, [aI l 3, aI l 4, aI l 5], 0, [vI l 3, vI l 4, vI l 5], 0⟩, ⟨0, 0, [aI l 6, aI l 7], 0, [vI l 6, vI l 7], 0⟩] : List Wr) A 3 = wantN l A 8 := by
  show drW ⟨0, 0, [aI l 6, aI l 7], 0, [vI l 6, vI l 7], 0⟩ (drW ⟨0, 0, [aI l 3, aI l 4, aI l 5], 0, [vI l 3, vI l 4, vI l 5], 0⟩ (drW ⟨0, 0, [aI l 0, aI l 1, aI l 2], 0, [vI l 0, vI l 1, vI l 2], 0⟩ A 3) 3) 2 = _
  rw [w2, w3, w3]; rfl
theorem fin_9 (l : List U2) (A : List Vl) : drL ([⟨0, 0, [aI l 0, aI l 1, aI l 2], 0, [vI l 0, vI l 1, vI l 2], 0⟩, ⟨0, 0, [aI l 3, aI l 4, aI l 5], 0, [vI l 3, vI l 4, vI l 5], 0⟩, ⟨0, 0, [aI l 6, aI l 7, aI l 8], 0, [vI l 6, vI l 7, vI l 8], 0⟩] : List Wr) A 3 = wantN l A 9 := by
  show drW ⟨0, 0, [aI l 6, aI l 7, aI l 8], 0, [vI l 6, vI l 7, vI l 8], 0⟩ (drW ⟨0, 0, [aI l 3, aI l 4, aI l 5], 0, [vI l 3, vI l 4, vI l 5], 0⟩ (drW ⟨0, 0, [aI l 0, aI l 1, aI l 2], 0, [vI l 0, vI l 1, vI l 2], 0⟩ A 3) 3) 3 = _
  rw [w3, w3, w3]; rfl
theorem l2_loop {l : List U2} {A : List Vl} {c n : Nat} {β : Bs} (hβ : β.X.length = 1) (hn : n ≤ 6) (hA : A.length = n) (h9 : l.length ≤ 9) (hl : ∀ x ∈ l, 0 ≤ x.a ∧ x.a < 256 ∧ 0 ≤ x.b ∧ x.b < 256) {ex : Nat → Kt → Prop} (hex : ∀ K, ex 2 K → (l.length = 0 → K (.exit 2) (F2_0 l A (wantN l A 0) c n) (S2_0 l A (wantN l A 0))) ∧ (l.length = 1 → K (.exit 2) (F2_1 l A (wantN l A 1) c n) (S2_1 l A (wantN l A 1))) ∧ (l.length = 2 → K (.exit 2) (F2_2 l A (wantN l A 2) c n) (S2_2 l A (wantN l A 2))) ∧ (l.length = 3 → K (.exit 2) (F2_3 l A (wantN l A 3) c n) (S2_3 l A (wantN l A 3))) ∧ (l.length = 4 → K (.exit 2) (F2_4 l A (wantN l A 4) c n) (S2_4 l A (wantN l A 4))) ∧ (l.length = 5 → K (.exit 2) (F2_5 l A (wantN l A 5) c n) (S2_5 l A (wantN l A 5))) ∧ (l.length = 6 → K (.exit 2) (F2_6 l A (wantN l A 6) c n) (S2_6 l A (wantN l A 6))) ∧ (l.length = 7 → K (.exit 2) (F2_7 l A (wantN l A 7) c n) (S2_7 l A (wantN l A 7))) ∧ (l.length = 8 → K (.exit 2) (F2_8 l A (wantN l A 8) c n) (S2_8 l A (wantN l A 8))) ∧ (l.length = 9 → K (.exit 2) (F2_9 l A (wantN l A 9) c n) (S2_9 l A (wantN l A 9)))) : LoopJ Try.prog β ex 2 (loopOf Try.prog 5 2) (F2_0 l A A c n) (S2_0 l A A) := by
  refine loop_rule (fun k : Nat => k ≤ l.length ∧ k ≤ 9) (fun k => F2 l A (wantN l A k) c n k) (fun k => S2 l A (wantN l A k) k) (fun k => l.length - k) (fun k hk K hK => ?_) 0 ⟨Nat.zero_le _, Nat.zero_le _⟩
  have hK := hex K hK
  obtain ⟨h1, h2⟩ := hk
  have hcase : k = 0 ∨ k = 1 ∨ k = 2 ∨ k = 3 ∨ k = 4 ∨ k = 5 ∨ k = 6 ∨ k = 7 ∨ k = 8 ∨ k = 9 := by omega
  rcases hcase with rfl | rfl | rfl | rfl | rfl | rfl | rfl | rfl | rfl | rfl
  · exact lr0 hβ hn hA h9 hl K hK.1 h1
  · exact lr1 hβ hn hA h9 hl K hK.2.1 h1
  · exact lr2 hβ hn hA h9 hl K hK.2.2.1 h1
  · exact lr3 hβ hn hA h9 hl K hK.2.2.2.1 h1
  · exact lr4 hβ hn hA h9 hl K hK.2.2.2.2.1 h1
  · exact lr5 hβ hn hA h9 hl K hK.2.2.2.2.2.1 h1
  · exact lr6 hβ hn hA h9 hl K hK.2.2.2.2.2.2.1 h1
  · exact lr7 hβ hn hA h9 hl K hK.2.2.2.2.2.2.2.1 h1
  · exact lr8 hβ hn hA h9 hl K hK.2.2.2.2.2.2.2.2.1 h1
  · exact lr9 hβ hn hA h9 hl K hK.2.2.2.2.2.2.2.2.2 h1
theorem last_law {l : List U2} {c : Nat} {size : Int} (hc : c ≤ 1) (hl : ∀ x ∈ l, 0 ≤ x.a ∧ x.a < 256 ∧ 0 ≤ x.b ∧ x.b < 256) (hs : 0 ≤ size ∧ size < 256) (w : World) (args' : Array Value) (ha : PW (TR w (There w)) [tdL l c, .sc (.int .u8 size)] args'.toList) :
    Calls Try.prog 5 args' w fun e w' => e = .returned (.bool true) ∧ Below w.heap.size w w' := by
  refine law_top (C := toldL) (fuel := 100) (n := 20) (un := fun _ => 0) (lvs := slL) (ex := exL l c (Nz size)) follows toldL_ok (fun β hβ => ?_) w args' ha
  show lawE _ _ _ _ _ _ (cnOf 1 slL) _ _ [.slice (some ⟨0, 0, some 0⟩) l.length c, .int .u8 size] (mkS [some (rowO .still l)]) trueE
  rw [vc_ml]
  have hβ : β.X.length = 1 := hβ
  obtain ⟨s, rfl⟩ := Int.eq_ofNat_of_zero_le hs.1
  have ht : Int.tmod (s : Int) 6 = ((s % 6 : Nat) : Int) := (Int.ofNat_tmod s 6).symm
  have hN : IntKind.wrap .i64 (1 + IntKind.wrap .i64 (Int.tmod (s : Int) 6)) = ((1 + s % 6 : Nat) : Int) := by
    rw [ht, w64 (x := ((s % 6 : Nat) : Int)) (by omega) (by omega), w64 (by omega) (by omega)]; omega
  have hNz : Nz (s : Int) = ((1 + s % 6 : Nat) : Int) := hN
  rw [hNz]
  generalize hn : 1 + s % 6 = n at *
  have hn6 : n ≤ 6 := by omega
  have d1 : decide ((0 : Int) ≤ (n : Int)) = true := decide_eq_true (by omega)
  have b1 : (Nat.beq n n && Nat.ble n 1000000) = true := by
    rw [Nat.beq_refl, Nat.ble_eq_true_of_le (by omega)]; rfl
  refine br_of (fun _ => trivial) (fun q => ?_)
  have h9 : l.length ≤ 9 := by simp at q; omega
  simp only [hN, Int.toNat_natCast, d1, b1, need_t]
  refine ⟨?_, fun A hA => ⟨?_, fun A hA => ?_⟩⟩
  · refine LoopJ.seen (f1 := F1 l (List.replicate n ⟨0, 0, 0⟩) (List.replicate n ⟨0, 0, 0⟩) c n (0 : Nat)) (st1 := S1 l (List.replicate n ⟨0, 0, 0⟩) (List.replicate n ⟨0, 0, 0⟩)) ?_ (l1_loop hβ hn6 (fun K hK A hA => hK A (by rw [Int.toNat_natCast]; exact hA)) _ (by simp))
    unfold F1
    rw [List.length_replicate]
    have hz : ∀ ρ s w', ObjR ρ (.row .mine 3 0 n fun _ => nthT [Td.sc (.int .i64 0), Td.sc (.int .i64 0), Td.sc (.float .f64 0)]) s w' → ObjR ρ (rowO .mine (List.replicate n (⟨0, 0, 0⟩ : Vl))) s w' := fun ρ s w' h => by
      refine h.row_TR (by simp) fun i _ hi j hj F y ht => ?_
      show TR _ F (Enc.enc ((List.replicate n (⟨0, 0, 0⟩ : Vl)).getD i Enc.dflt) j) y
      have : (List.replicate n (⟨0, 0, 0⟩ : Vl)).getD i Enc.dflt = ⟨0, 0, 0⟩ := by simp [List.getD, hi]
      rw [this]
      match j, hj with
      | 0, _ => exact ht
      | 1, _ => exact ht
      | 2, _ => exact ht
    exact Seen.three rfl rfl rfl (fun _ _ _ h => h) hz hz
  · exact l2_loop hβ hn6 hA h9 hl (fun K hK => hK A (by rw [Int.toNat_natCast]; exact hA))
  · have hA6 : A.length ≤ 6 := by omega
    have hw : ∀ k, (wantN l A k).length ≤ 6 := fun k => by rw [wantN_len]; exact hA6
    refine ⟨fun _ => ?_, fun _ => ?_, fun _ => ?_, fun _ => ?_, fun _ => ?_, fun _ => ?_, fun _ => ?_, fun _ => ?_, fun _ => ?_, fun _ => ?_⟩
    · simp only [encZ, esV, lV, nFr, Nat.zero_add, bleS, Bool.true_and, need_t]
      exact need_of (ok2w (by kernel_rfl) (by kernel_rfl) hA6) (fin2 (fin_0 l A) (hw 0))
    · simp only [encZ, esV, lV, nFr, Nat.zero_add, bleS, Bool.true_and, need_t]
      exact need_of (ok2w (by kernel_rfl) (by kernel_rfl) hA6) (fin2 (fin_1 l A) (hw 1))
    · simp only [encZ, esV, lV, nFr, Nat.zero_add, bleS, Bool.true_and, need_t]
      exact need_of (ok2w (by kernel_rfl) (by kernel_rfl) hA6) (fin2 (fin_2 l A) (hw 2))
    · simp only [encZ, esV, lV, nFr, Nat.zero_add, bleS, Bool.true_and, need_t]
      exact need_of (ok2w (by kernel_rfl) (by kernel_rfl) hA6) (fin2 (fin_3 l A) (hw 3))
    · simp only [encZ, esV, lV, nFr, Nat.zero_add, bleS, Bool.true_and, need_t]
      exact need_of (ok2w (by kernel_rfl) (by kernel_rfl) hA6) (fin2 (fin_4 l A) (hw 4))
    · simp only [encZ, esV, lV, nFr, Nat.zero_add, bleS, Bool.true_and, need_t]
      exact need_of (ok2w (by kernel_rfl) (by kernel_rfl) hA6) (fin2 (fin_5 l A) (hw 5))
    · simp only [encZ, esV, lV, nFr, Nat.zero_add, bleS, Bool.true_and, need_t]
      exact need_of (ok2w (by kernel_rfl) (by kernel_rfl) hA6) (fin2 (fin_6 l A) (hw 6))
    · simp only [encZ, esV, lV, nFr, Nat.zero_add, bleS, Bool.true_and, need_t]
      exact need_of (ok2w (by kernel_rfl) (by kernel_rfl) hA6) (fin2 (fin_7 l A) (hw 7))
    · simp only [encZ, esV, lV, nFr, Nat.zero_add, bleS, Bool.true_and, need_t]
      exact need_of (ok2w (by kernel_rfl) (by kernel_rfl) hA6) (fin2 (fin_8 l A) (hw 8))
    · simp only [encZ, esV, lV, nFr, Nat.zero_add, bleS, Bool.true_and, need_t]
      exact need_of (ok2w (by kernel_rfl) (by kernel_rfl) hA6) (fin2 (fin_9 l A) (hw 9))
end Go.Proofs.Ytpejhdbllphdaaa.Ev
