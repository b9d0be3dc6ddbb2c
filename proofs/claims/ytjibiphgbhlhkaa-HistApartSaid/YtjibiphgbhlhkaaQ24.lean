/-
  The requests of a history: told to the evaluator.
-/
import Derived.Test.YtjibiphgbhlhkaaQ23
import Derived.Test.YtjibiphgbhlhkaaQ22
set_option linter.unusedVariables false
set_option linter.unusedSimpArgs false
section
set_option maxRecDepth 100000
namespace Go.Proofs.Ytjibiphgbhlhkaa.Ev
open Go Go.Proofs Go.RowKit
theorem getD_set {α : Type} (l : List α) (i : Nat) (a d : α) (k : Nat) (hi : i < l.length) : (l.set i a).getD k d = if k = i then a else l.getD k d := by
 simp only [List.getD, List.getElem?_set]
 by_cases h : i = k
 ·subst h; simp [hi]
 ·rw [if_neg h, if_neg (fun e => h e.symm)]
theorem put_eq {A : List Ask} {i0 off : Nat} {ts : List Td} {g : Nat → Nat → Td} {a : Ask} (hi : i0 < A.length) (hg : ∀ k j, j < 13 → g k j = encL A k j) (h1 : ∀ j, off ≤ j → j < off + ts.length → j < 13 → nthT ts (j - off) = akE a j) (h2 : ∀ j, j < 13 → ¬(off ≤ j ∧ j < off + ts.length) → akE a j = akE (A.getD i0 Enc.dflt) j)
  (h3 : ∀ (b : Ask) j, off ≤ j → j < off + ts.length → j < 13 → mrgT true (akE a j) (akE b j) = akE a j ∧ mrgT false (akE a j) (akE b j) = akE b j) : ∀ k j, j < 13 → putT i0 off ts g k j = encL (A.set i0 a) k j := by
 intro k j hj
 show putT i0 off ts g k j = akE ((A.set i0 a).getD k Enc.dflt) j
 have hgk : g k j = akE (A.getD k Enc.dflt) j := hg k j hj
 rw [getD_set _ _ _ _ _ hi]
 unfold putT
 by_cases hr : off ≤ j ∧ j < off + ts.length
 ·have c1 : (Nat.ble off j && Nat.blt j (off + ts.length)) = true := by simp [hr.1, hr.2]
  rw [c1, cond_true, h1 j hr.1 hr.2 hj, hgk]
  obtain ⟨q1, q2⟩ := h3 (A.getD k Enc.dflt) j hr.1 hr.2 hj
  by_cases hk : k = i0
  ·subst hk; rw [if_pos rfl, Nat.beq_refl]; exact q1
  ·rw [if_neg hk, beq_false hk]; exact q2
 ·have c1 : (Nat.ble off j && Nat.blt j (off + ts.length)) = false := by
   rw [Bool.and_eq_false_iff]
   by_cases h : off ≤ j
   ·right; exact blt_false fun h' => hr ⟨h, h'⟩
   ·left
    cases hq : Nat.ble off j with
    | false => rfl
    | true => exact absurd (Nat.le_of_ble_eq_true hq) h
  rw [c1, cond_false, hgk]
  by_cases hk : k = i0
  ·subst hk; rw [if_pos rfl]; exact (h2 j hj hr).symm
  ·rw [if_neg hk]
theorem mrg_vl (b : Bool) (x y : Vl) (j : Nat) : mrgT b (vlE x j) (vlE y j) = cond b (vlE x j) (vlE y j) := by
 match j with
 | 0 => cases b <;> rfl
 | 1 => cases b <;> rfl
 | j + 2 => cases b <;> rfl
theorem mrg_frV (b : Bool) (l m : List Vl) (c d : Nat) : mrgT b (.fr 3 l.length c (encL l)) (.fr 3 m.length d (encL m)) = cond b (.fr 3 l.length c (encL l)) (.fr 3 m.length d (encL m)) := by
 have hs : sameEs 3 l.length 3 m.length = true := by simp [sameEs, Nat.beq_refl]
 have : mrgT b (.fr 3 l.length c (encL l)) (.fr 3 m.length d (encL m)) = .fr 3 (cond b l.length m.length) (cond b c d) fun i j => mrgT b (encL l i j) (encL m i j) := by
  simp only [mrgT, hs, cond_true, beq_false (show (3 : Nat) ≠ 0 by decide), cond_false]
 refine Eq.trans this ?_
 cases b with
 | true =>
  simp only [cond_true]
  congr 1
  funext i j
  exact mrg_vl true _ _ j
 | false =>
  simp only [cond_false]
  congr 1
  funext i j
  exact mrg_vl false _ _ j
theorem put_to {A : List Ask} {i0 : Nat} {g : Nat → Nat → Td} (hi : i0 < A.length) (hg : ∀ k j, j < 13 → g k j = encL A k j) (a : Ask) (v : Int) (ha : A.getD i0 Enc.dflt = a) : ∀ k j, j < 13 → putT i0 10 [.sc (.int .i64 v)] g k j = encL (A.set i0 { a with to := v }) k j := by
 refine put_eq hi hg (fun j q1 q2 _ => ?_) (fun j hj hn => ?_) (fun b j q1 q2 _ => ?_)
 ·have : j = 10 := by simp at q2; omega
  subst this; rfl
 ·rw [ha]
  match j, hj, hn with
  | 0, _, _ | 1, _, _ | 2, _, _ | 3, _, _ | 4, _, _ | 5, _, _ | 6, _, _ | 7, _, _ | 8, _, _ | 9, _, _ | 11, _, _ | 12, _, _ => rfl
  | 10, _, hn => exact absurd ⟨Nat.le_refl _, by simp⟩ hn
 ·have : j = 10 := by simp at q2; omega
  subst this; exact ⟨rfl, rfl⟩
theorem put_mu {A : List Ask} {i0 : Nat} {g : Nat → Nat → Td} (hi : i0 < A.length) (hg : ∀ k j, j < 13 → g k j = encL A k j) (a : Ask) (v : Bool) (ha : A.getD i0 Enc.dflt = a) : ∀ k j, j < 13 → putT i0 11 [.sc (.bool v)] g k j = encL (A.set i0 { a with mu := v }) k j := by
 refine put_eq hi hg (fun j q1 q2 _ => ?_) (fun j hj hn => ?_) (fun b j q1 q2 _ => ?_)
 ·have : j = 11 := by simp at q2; omega
  subst this; rfl
 ·rw [ha]
  match j, hj, hn with
  | 0, _, _ | 1, _, _ | 2, _, _ | 3, _, _ | 4, _, _ | 5, _, _ | 6, _, _ | 7, _, _ | 8, _, _ | 9, _, _ | 10, _, _ | 12, _, _ => rfl
  | 11, _, hn => exact absurd ⟨Nat.le_refl _, by simp⟩ hn
 ·have : j = 11 := by simp at q2; omega
  subst this; exact ⟨rfl, rfl⟩
theorem put_pl {A : List Ask} {i0 : Nat} {g : Nat → Nat → Td} (hi : i0 < A.length) (hg : ∀ k j, j < 13 → g k j = encL A k j) (a : Ask) (v : Bool) (ha : A.getD i0 Enc.dflt = a) : ∀ k j, j < 13 → putT i0 12 [.sc (.bool v)] g k j = encL (A.set i0 { a with pl := v }) k j := by
 refine put_eq hi hg (fun j q1 q2 _ => ?_) (fun j hj hn => ?_) (fun b j q1 q2 _ => ?_)
 ·have : j = 12 := by simp at q2; omega
  subst this; rfl
 ·rw [ha]
  match j, hj, hn with
  | 0, _, _ | 1, _, _ | 2, _, _ | 3, _, _ | 4, _, _ | 5, _, _ | 6, _, _ | 7, _, _ | 8, _, _ | 9, _, _ | 10, _, _ | 11, _, _ => rfl
  | 12, _, hn => exact absurd ⟨Nat.le_refl _, by simp⟩ hn
 ·have : j = 12 := by simp at q2; omega
  subst this; exact ⟨rfl, rfl⟩
theorem put_vs {A : List Ask} {i0 : Nat} {g : Nat → Nat → Td} (hi : i0 < A.length) (hg : ∀ k j, j < 13 → g k j = encL A k j) (a : Ask) (v : List Vl) (c : Nat) (ha : A.getD i0 Enc.dflt = a) : ∀ k j, j < 13 → putT i0 8 [.fr 3 v.length c (encL v)] g k j = encL (A.set i0 { a with vs := v, cs := c }) k j := by
 refine put_eq hi hg (fun j q1 q2 _ => ?_) (fun j hj hn => ?_) (fun b j q1 q2 _ => ?_)
 ·have : j = 8 := by simp at q2; omega
  subst this; rfl
 ·rw [ha]
  match j, hj, hn with
  | 0, _, _ | 1, _, _ | 2, _, _ | 3, _, _ | 4, _, _ | 5, _, _ | 6, _, _ | 7, _, _ | 9, _, _ | 10, _, _ | 11, _, _ | 12, _, _ => rfl
  | 8, _, hn => exact absurd ⟨Nat.le_refl _, by simp⟩ hn
 ·have : j = 8 := by simp at q2; omega
  subst this; exact ⟨mrg_frV true _ _ _ _, mrg_frV false _ _ _ _⟩
theorem put_row {A' : List Ask} {el : Nat → Nat → Td} {n : Nat} {ρ : Rho} {s : Spot} {w : World} (hn : A'.length = n) (h : ∀ k j, j < 13 → el k j = encL A' k j) (ho : ObjR ρ (.row .mine 13 0 n el) s w) : ObjR ρ (rowO .mine A') s w :=
 ho.row_TR (e' := encL A') hn fun i _ _ j hj F y ht => by rw [← h i j hj]; exact ht
theorem rd_round {l : List Evt} {c : Nat} {β : Bs} (hβ : β.X.length = 1) (hl : l.length ≤ 40) (hG : ∀ k, k < l.length → rdG l (rdK l k) k = true) (k : Nat) (hk : k ≤ l.length) (K : Kt) (hK : exRd l c 0 K) :
  J Try.prog β (loopOf Try.prog 14 0) (FRd l c (rdK l k).1.length (rdK l k).2.2 (k : Nat)) (SRd l (rdK l k).1 (rdK l k).2.1) (Nn β (fun k => k ≤ l.length) (fun k => l.length - k) (fun k : Nat => FRd l c (rdK l k).1.length (rdK l k).2.2 (k : Nat)) (fun k => SRd l (rdK l k).1 (rdK l k).2.1) k K) := by
 refine roundJ_ok (E := 1) (lvs := fun _ => slRd) (un := fun _ => 0) (fuel := 100) (n := 20) (ex := fun _ _ => False) follows toldT_ok hβ (lv := lvRd) ?_
 rw [vc_rd_r]
 by_cases hkn : k < l.length
 ·have c1 : decide ((k : Int) < Int.ofNat l.length) = true := by simpa using hkn
  have c2 : decide ((0 : Int) ≤ (k : Int)) = true := by simp
  have e0 : Int.toNat (k : Int) = k := Int.toNat_natCast k
  have c3 : Nat.blt k l.length = true := by simpa using hkn
  have c5 : ∀ q, Nat.ble 0 q = true := fun q => by simp
  have c6 : ∀ q, Nat.ble q q = true := fun q => by simp
  have hw : IntKind.wrap .i64 ((k : Int) + 1) = ((k + 1 : Nat) : Int) := w64 (by omega) (by omega)
  have hg := hG k hkn
  have hstep : rdK l (k + 1) = rdS l (rdK l k) k := rfl
  have hnx : ∀ (A' : List Ask) (es' : Es) (N' : Int) (f : AFr) (st : ASt), rdK l (k + 1) = (A', es', N') → Seen β f st (FRd l c A'.length N' ((k + 1 : Nat) : Int)) (SRd l A' es') → Nn β (fun k => k ≤ l.length) (fun k => l.length - k) (fun k : Nat => FRd l c (rdK l k).1.length (rdK l k).2.2 (k : Nat)) (fun k => SRd l (rdK l k).1 (rdK l k).2.1) k K .normal f st := fun A' es' N' f st h hs =>
   Nn.next (I := fun k => k ≤ l.length) (m := fun k => l.length - k) (F := fun k : Nat => FRd l c (rdK l k).1.length (rdK l k).2.2 (k : Nat)) (S := fun k => SRd l (rdK l k).1 (rdK l k).2.1) (p := k) (k + 1) hkn (by omega) (by rw [h]; exact hs)
  generalize hN : Nn β (fun k => k ≤ l.length) (fun k => l.length - k) (fun k : Nat => FRd l c (rdK l k).1.length (rdK l k).2.2 (k : Nat)) (fun k => SRd l (rdK l k).1 (rdK l k).2.1) k K = Nx at hnx ⊢
  clear hN
  rw [hstep] at hnx
  generalize rdK l k = p at hg hnx ⊢
  obtain ⟨A, es, N⟩ := p
  unfold rdG at hg
  unfold rdS at hnx
  simp only [c1, c2, e0, Nat.zero_add, c3, c5, c6, Bool.true_and, Bool.and_self, br_t, need_t, hw] at hg hnx ⊢
  generalize l.getD k Enc.dflt = x at hg hnx ⊢
  have hkey : Value.agg ⟨[.int .i64 x.s, .int .i64 x.i]⟩ = keyE x := rfl
  have hhas : ∀ e, hasK (keyE x) e = hasE x e := fun _ => rfl
  have hint : ∀ e, intV (getK (keyE x) (.int .i64 0) e) = intE x e := fun _ => rfl
  simp only [hkey, hhas, hint]
  by_cases k3 : x.k = 3
  ·have d3 : (x.k == 3) = true := by simpa using k3
   rw [d3, cond_true] at hg
   simp only [d3, cond_true] at hnx
   simp only [d3, br_t]
   refine br_of (fun q1 => br_of (fun q2 => ?_) (fun q2 => ?_)) (fun q1 => ?_)
   ·rw [q1, q2] at hg; cases hg
   ·exact hnx A es _ _ _ rfl (Seen.refl _ _ _)
   ·exact hnx A es _ _ _ rfl (Seen.refl _ _ _)
  ·have d3 : (x.k == 3) = false := by simpa using k3
   rw [d3, cond_false] at hg
   simp only [d3, cond_false] at hnx
   simp only [d3, br_f]
   by_cases k1 : x.k = 1
   ·have d1 : (x.k == 1) = true := by simpa using k1
    rw [d1, cond_true, Bool.and_eq_true, Bool.not_eq_true'] at hg
    simp only [d1, cond_true] at hnx
    obtain ⟨g1, g2⟩ := hg
    have g2' : A.length < 8 := by simpa using g2
    have d8 : decide (Int.ofNat A.length ≥ (8 : Int)) = false := by simp; omega
    have d9 : Nat.ble (A.length + 1) 1000000 = true := by simp; omega
    simp only [d1, br_t, g1, br_f, d8, d9, need_t]
    refine hnx _ _ _ _ _ rfl ?_
    have e1 : (A ++ [askE x (k : Int) (l.length : Int)]).length = A.length + 1 := by simp
    rw [e1]
    refine Seen.objs rfl fun q o2 h => ?_
    match q, h with
    | 0, h => cases h; exact ⟨_, rfl, rfl, fun _ _ _ h => h⟩
    | 1, h =>
     cases h
     refine ⟨_, rfl, rfl, fun ρ s w h => row_app (α := Ask) (es := 13) (n := A.length) (g := fun i j => encL A i j) (a := askE x (k : Int) (l.length : Int)) (ts := _) rfl rfl (fun i j => rfl) (fun j hj => ?_) (by simpa only [Nat.zero_add] using h)⟩
     have hj : j < 13 := hj
     match j, hj with
     | 0, _ | 1, _ | 2, _ | 3, _ | 4, _ | 5, _ | 6, _ | 7, _ | 8, _ | 9, _ | 10, _ | 11, _ | 12, _ => rfl
    | 2, h => cases h; exact ⟨_, rfl, rfl, fun _ _ _ h => h⟩
    | q + 3, h => simp at h
   ·have d1 : (x.k == 1) = false := by simpa using k1
    rw [d1, cond_false] at hg
    simp only [d1, cond_false] at hnx
    simp only [Bool.and_eq_true, Bool.not_eq_true'] at hg
    obtain ⟨g0, g1, g2, g3, g4⟩ := hg
    simp only [d1, br_f, g0, need_t, g1, Bool.not_true, g2, g3, Bool.and_self]
    have g3' : (intE x es).toNat < A.length := by simpa using g3
    generalize (intE x es).toNat = ix at g3 g3' g4 hnx ⊢
    obtain ⟨a, ha⟩ : ∃ a, A.getD ix Enc.dflt = a := ⟨_, rfl⟩
    rw [ha] at g4 hnx ⊢
    simp only [g4, br_f]
    have hset : ∀ (b b' : Ask), (A.set ix b).set ix b' = A.set ix b' := fun b b' => List.set_set ..
    have hat : ∀ b : Ask, (A.set ix b).getD ix Enc.dflt = b := fun b => by rw [getD_set _ _ _ _ _ g3', if_pos rfl]
    have hln : ∀ b : Ask, ix < (A.set ix b).length := fun b => by rw [List.length_set]; exact g3'
    have p1 := put_to (g := encL A) (A := A) g3' (fun _ _ _ => rfl) a (k : Int) ha
    have p2 := put_mu (hln _) p1 _ (x.e == 0) (hat _)
    have p3 := put_pl (hln _) (by rw [hset] at p2; exact p2) _ (x.e == 0) (hat _)
    rw [hset] at p3
    cases hwr : a.ev.w with
    | true =>
     simp only [Bool.not_true, br_f]
     refine hnx _ _ _ _ _ rfl ?_
     rw [List.length_set]
     refine Seen.objs rfl fun q o2 h => ?_
     match q, h with
     | 0, h => cases h; exact ⟨_, rfl, rfl, fun _ _ _ h => h⟩
     | 1, h =>
      cases h
      have et : tldE a x (k : Int) = { a with to := (k : Int), mu := x.e == 0, pl := x.e == 0 } := by unfold tldE; rw [hwr]; rfl
      exact ⟨_, rfl, rfl, fun ρ s w h => put_row (A' := A.set ix (tldE a x (k : Int))) (by rw [List.length_set]) (fun k' j hj => by rw [et]; exact p3 k' j hj) h⟩
     | 2, h => cases h; exact ⟨_, rfl, rfl, fun _ _ _ h => h⟩
     | q + 3, h => simp at h
    | false =>
     simp only [Bool.not_false, br_t]
     have p4 := put_vs (hln _) p3 _ x.v x.cv (hat _)
     rw [hset] at p4
     refine hnx _ _ _ _ _ rfl ?_
     rw [List.length_set]
     refine Seen.objs rfl fun q o2 h => ?_
     match q, h with
     | 0, h => cases h; exact ⟨_, rfl, rfl, fun _ _ _ h => h⟩
     | 1, h =>
      cases h
      have et : tldE a x (k : Int) = { a with to := (k : Int), mu := x.e == 0, pl := x.e == 0, vs := x.v, cs := x.cv } := by unfold tldE; rw [hwr]; rfl
      exact ⟨_, rfl, rfl, fun ρ s w h => put_row (A' := A.set ix (tldE a x (k : Int))) (by rw [List.length_set]) (fun k' j hj => by rw [et]; exact p4 k' j hj) h⟩
     | 2, h => cases h; exact ⟨_, rfl, rfl, fun _ _ _ h => h⟩
     | q + 3, h => simp at h
 ·have c1 : decide ((k : Int) < Int.ofNat l.length) = false := by simpa using hkn
  have hkn' : k = l.length := by omega
  subst hkn'
  simp only [c1, br_f]
  exact Nn.exit (Seen.refl _ _ _) hK
theorem rd_seen {l : List Evt} {c : Nat} {β : Bs} (hβ : β.X.length = 1) : Seen β (mkF 127 [(0, .slice (some ⟨0, 0, some 0⟩) l.length c), (2, .slice none 0 0), (3, .int .i64 (-1)), (4, .map (some 1)), (15, .slice (some ⟨0, 0, some 0⟩) l.length c), (16, .int .i64 (Int.ofNat l.length)), (17, .int .i64 0)])
  (mkS [some (.row .look 8 0 l.length (encL l)), some (.map [] 0)]) (FRd l c 0 (-1) (0 : Nat)) (SRd l [] []) := by
 refine Seen.trans (Seen.nilSlot (f' := mkF 127 [(0, .slice (some ⟨0, 0, some 0⟩) l.length c), (2, nilRow 2), (3, .int .i64 (-1)), (4, .map (some 1)), (15, .slice (some ⟨0, 0, some 0⟩) l.length c), (16, .int .i64 (Int.ofNat l.length)), (17, .int .i64 0)]) 2 13 (encL ([] : List Ask)) rfl rfl rfl fun t v h => ?_)
  (Seen.trans (Seen.objs (l2 := [some (.row .look 8 0 l.length (encL l)), some (.omap kkR (.i .i64) []), some (.row .mine 13 0 0 (encL ([] : List Ask)))]) rfl fun q o2 h => ?_) (Seen.canon (E := 1) (slots := slRd) hβ (fun K => by kernel_rfl)))
 ·rcases mkFT_get _ _ t v h with h1 | h1
  ·simp only [List.mem_cons, List.mem_nil_iff, or_false, Prod.mk.injEq] at h1
   rcases h1 with ⟨rfl, rfl⟩ | ⟨rfl, rfl⟩ | ⟨rfl, rfl⟩ | ⟨rfl, rfl⟩ | ⟨rfl, rfl⟩ | ⟨rfl, rfl⟩ | ⟨rfl, rfl⟩
   ·exact .inr rfl
   ·exact .inl ⟨rfl, rfl⟩
   ·exact .inr rfl
   ·exact .inr rfl
   ·exact .inr rfl
   ·exact .inr rfl
   ·exact .inr rfl
  ·cases h1
 ·match q, h with
  | 0, h => cases h; exact ⟨_, rfl, rfl, fun _ _ _ h => h⟩
  | 1, h => cases h; exact ⟨_, rfl, rfl, fun _ _ _ h => h.openMap kkR (.i .i64)⟩
  | 2, h => cases h; exact ⟨_, rfl, rfl, fun _ _ _ h => h⟩
  | q + 3, h => simp at h
def rdA (l : List Evt) : List Ask := (rdK l l.length).1
def rdN (l : List Evt) : Int := if (0 : Int) > (rdK l l.length).2.2 then 0 else (rdK l l.length).2.2
def rdOk (l : List Evt) : Bool := Nat.ble l.length 40 && (List.range l.length).all fun k => rdG l (rdK l k) k
theorem rdOk_at {l : List Evt} (h : rdOk l = true) : l.length ≤ 40 ∧ ∀ k, k < l.length → rdG l (rdK l k) k = true := by
 unfold rdOk at h
 rw [Bool.and_eq_true, List.all_eq_true] at h
 exact ⟨Nat.le_of_ble_eq_true h.1, fun k hk => h.2 k (List.mem_range.2 hk)⟩
def spRd (args : List Value) (objs : List (Option AObj)) : Option SpT := match args, objs with
 | [.slice (some ⟨0, 0, some 0⟩) n c], [o0] =>
  some (.one ⟨rowB Evt n c o0 && rdOk (rowL Evt n o0), [some (rowO .look (rowL Evt n o0))], .returned (.tuple ⟨[.slice (some ⟨1, 0, some 0⟩) (rdA (rowL Evt n o0)).length 1, .int .i64 (rdN (rowL Evt n o0))]⟩), [.same], [rowO .mine (rdA (rowL Evt n o0))]⟩)
 | _, _ => none
theorem read_told : EffOk Try.prog 14 (pickS spRd) := by
 intro args objs s hs hb
 unfold pickS spRd at hs
 split at hs
 ·rename_i n c o0
  simp only [Option.map_some, Option.some.injEq, SpT.pick] at hs
  subst hs
  have hb' := hb
  simp only [Bool.and_eq_true] at hb'
  obtain ⟨b1, b2⟩ := hb'
  obtain ⟨l1, m1, c1, v1⟩ := rowB_ok b1
  generalize hB : (rowB Evt n c o0 && rdOk (rowL Evt n o0)) = B at hb
  refine ⟨⟨rfl, fun i o h => ?_⟩, ?_⟩
  ·match i, h with
   | 0, h => cases h; obtain ⟨q, rfl, hq⟩ := v1; exact ⟨q, rfl, (fun h => by cases h), hq⟩
   | _ + 1, h => simp at h
  refine ⟨toldT, 100, 20, fun _ => 0, fun _ => slRd, exRd (rowL Evt n o0) c, toldT_ok, fun β hβ => ?_⟩
  generalize rowL Evt n o0 = l at *
  subst l1
  obtain ⟨hl, hG⟩ := rdOk_at b2
  have hout : ∀ s : Sp, outR (effK s) = outK fun r l => ∃ l2, objsR l l2 ∧ effK s r (mkS l2) := fun s => rfl
  rw [hout]
  refine (vc_rd l c β _).mpr ?_
  have c40 : decide (Int.ofNat l.length > (40 : Int)) = false := by simp; omega
  rw [c40, br_f]
  refine ⟨LoopJ.seen (rd_seen hβ) (loop_rule (fun k => k ≤ l.length) (fun k : Nat => FRd l c (rdK l k).1.length (rdK l k).2.2 (k : Nat)) (fun k => SRd l (rdK l k).1 (rdK l k).2.1) (fun k => l.length - k) (fun k hk K hK => rd_round hβ hl hG k hk K hK) 0 (Nat.zero_le _)), ?_⟩
  refine ⟨_, objsR.refl _, [1], rfl, by simp, by simp, rfl, fun i o h => ?_, fun j x o h h2 => ?_⟩
  ·match i, h with
   | 0, h => cases h
   | i + 1, h => simp at h
  ·match j, h, h2 with
   | 0, h, h2 => cases h; cases h2; rfl
   | j + 1, h, h2 => simp at h
 ·cases hs
end Go.Proofs.Ytjibiphgbhlhkaa.Ev
end
section
set_option maxRecDepth 1000000
namespace Go.Proofs.Ytjibiphgbhlhkaa.Ev
open Go Go.Proofs
def FPlN (A : List Ask) (ca : Nat) (i : Int) : AFr := mkF 72 [(0, .pointer (some ⟨0, 0, none⟩)), (3, .pointer (some ⟨4, 0, none⟩)), (12, .slice (some ⟨2, 0, some 0⟩) A.length ca), (13, .int .i64 (Int.ofNat A.length)), (14, .int .i64 i)]
def SPlN (l : List Evt) (cl : Nat) (A : List Ask) (ca : Nat) (es : Es) : ASt := mkS (viN l cl A ca es ++ [some (.cells svN true 0)])
def exPlN (l : List Evt) (cl : Nat) (A : List Ask) (ca : Nat) (es : Es) : Nat → Kt → Prop := fun bk K => K (.exit bk) (FPlN A ca A.length) (SPlN l cl A ca es)
def shpPlN (l : List Evt) (cl : Nat) (A : List Ask) (ca : Nat) (es : Es) (i' : Int) : AFr × ASt := (FPlN A ca i', SPlN l cl A ca es)
theorem vc_pln (l : List Evt) (cl : Nat) (A : List Ask) (ca : Nat) (es : Es) (f : Nat) (β : Bs) (K : AE → List (Option AObj) → Prop) : lawE Try.prog (toldG f) 100 20 β (fun _ => 0) (cnOf 4 fun _ => slPl) (exPlN l cl A ca es) 22 [.pointer (some ⟨0, 0, none⟩), .agg ⟨svN⟩] (mkS (viN l cl A ca es)) (outK K) =
 (LoopJ Try.prog β (exPlN l cl A ca es) 0 (loopOf Try.prog 22 0) (FPlN A ca (0 : Int)) (SPlN l cl A ca es) ∧ K (.returned (.bool false)) [some (.cells [.slice (some ⟨1, 0, some 0⟩) l.length cl, .slice (some ⟨2, 0, some 0⟩) A.length ca, .map (some 3)] true 0), some (.row .look 8 0 l.length (encL l)), some (.row .look 13 0 A.length (encL A)), some (AObj.omap Kk.s Vk.b es), some (.cells [.int .i64 (0 : Int), .int .u64 (0 : Int), .bool false, .slice none 0 0] true 0)]) := by kernel_rfl
theorem vc_pln_r (l : List Evt) (cl : Nat) (A : List Ask) (ca : Nat) (es : Es) (i : Int) (f : Nat) (β : Bs) (N : Kt) (ex : Nat → Kt → Prop) : roundJ Try.prog (toldG f) 100 20 β (fun _ => 0) (cnOf 4 fun _ => slPl) ex 22 0 4 lvPl (FPlN A ca i) (SPlN l cl A ca es) N =
 (br (decide (i < Int.ofNat A.length)) (need (decide ((0 : Int) ≤ i)) (need (Nat.blt (Int.toNat i) A.length) (need (Nat.ble 0 (0 + Int.toNat i) && Nat.blt (0 + Int.toNat i) A.length) (br (!Ask.pl (List.getD A (0 + Int.toNat i) Enc.dflt)) (onP N .normal (shpPlN l cl A ca es (IntKind.wrap .i64 (i + (1 : Int))))) (need (decide ((0 : Int) ≤ i)) (br (decide (Ask.fr (List.getD A (0 + Int.toNat i) Enc.dflt) ≥ (0 : Int))) (onP N .normal (shpPlN l cl A ca es (IntKind.wrap .i64 (i + (1 : Int))))) (br (decide (Ask.to (List.getD A (0 + Int.toNat i) Enc.dflt) < (0 : Int))) (onP N .normal (shpPlN l cl A ca es (IntKind.wrap .i64 (i + (1 : Int))))) (onP N .normal (shpPlN l cl A ca es (IntKind.wrap .i64 (i + (1 : Int)))))))))))) (onP N (.exit 0) (shpPlN l cl A ca es i))) := by kernel_rfl
end Go.Proofs.Ytjibiphgbhlhkaa.Ev
end
section
set_option maxRecDepth 1000000
namespace Go.Proofs.Ytjibiphgbhlhkaa.Ev
open Go Go.Proofs
def slPs : List Nat := [0, 3, 37, 38, 39]
def lvPs : AX → List Nat := fun x => match x with
 | .normal => slPs
 | .exit _ => slPs
 | _ => [4]
def FPs (A : List Ask) (ca : Nat) (i : Int) : AFr := mkF 69 [(0, .pointer (some ⟨0, 0, none⟩)), (3, .pointer (some ⟨5, 0, none⟩)), (37, .slice (some ⟨2, 0, some 0⟩) A.length ca), (38, .int .i64 (Int.ofNat A.length)), (39, .int .i64 i)]
def FPsr (q : Bool) : AFr := mkF 69 [(4, .bool q)]
def exPs (l : List Evt) (cl : Nat) (A : List Ask) (ca : Nat) (es : Es) (a d : Int) (b : Bool) (m : List Vl) (c : Nat) : Nat → Kt → Prop := fun bk K => (blocked A a d A.length = true → K .ret (FPsr false) (mkS (viS l cl A ca es m))) ∧ (blocked A a d A.length = false → K (.exit bk) (FPs A ca A.length) (SPl l cl A ca es a d b m c))
def shpPs (l : List Evt) (cl : Nat) (A : List Ask) (ca : Nat) (es : Es) (a d : Int) (b : Bool) (m : List Vl) (c : Nat) (i' : Int) : AFr × ASt := (FPs A ca i', SPl l cl A ca es a d b m c)
def shpPsr (l : List Evt) (cl : Nat) (A : List Ask) (ca : Nat) (es : Es) (m : List Vl) (q' : Bool) : AFr × ASt := (FPsr q', mkS (viS l cl A ca es m))
theorem vc_ps (l : List Evt) (cl : Nat) (A : List Ask) (ca : Nat) (es : Es) (a d : Int) (b : Bool) (m : List Vl) (c : Nat) (f : Nat) (β : Bs) (K : AE → List (Option AObj) → Prop) : lawE Try.prog (toldG f) 100 20 β (fun _ => 0) (cnOf 5 fun _ => slPs) (exPs l cl A ca es a d b m c) 21 [.pointer (some ⟨0, 0, none⟩), .agg ⟨svV a d b m c⟩] (mkS (viS l cl A ca es m)) (outK K) =
 (br (a == Int.ofNat l.length) (K (.returned (.bool true)) [some (.cells [.slice (some ⟨1, 0, some 0⟩) l.length cl, .slice (some ⟨2, 0, some 0⟩) A.length ca, .map (some 3)] true 0), some (.row .look 8 0 l.length (encL l)), some (.row .look 13 0 A.length (encL A)), some (AObj.omap Kk.s Vk.b es), some (.row .look 3 0 m.length (encL m)), some (.cells [.int .i64 a, .int .u64 d, .bool b, .slice (some ⟨4, 0, some 0⟩) m.length c] true 0)]) (need (decide ((0 : Int) ≤ a)) (need (Nat.blt (Int.toNat a) l.length) (need (Nat.ble 0 (0 + Int.toNat a) && Nat.blt (0 + Int.toNat a) l.length) (br (Evt.k (List.getD l (0 + Int.toNat a) Enc.dflt) == (3 : Int)) (need (rowB Evt l.length cl (some (.row .look 8 0 l.length (encL l))) && rowB Ev.Ask A.length ca (some (.row .look 13 0 A.length (encL A))) && rowB Vl (List.length (Evt.m (List.getD l (0 + Int.toNat a) Enc.dflt))) (Evt.cm (List.getD l (0 + Int.toNat a) Enc.dflt)) (some (.row .still 3 0 (List.length (Evt.m (List.getD l (0 + Int.toNat a) Enc.dflt))) (encL (Evt.m (List.getD l (0 + Int.toNat a) Enc.dflt))))) && okS (rowL Evt l.length (some (.row .look 8 0 l.length (encL l)))) (rowL Ev.Ask A.length (some (.row .look 13 0 A.length (encL A)))) f (IntKind.wrap .i64 (a + (1 : Int))) d true (rowL Vl (List.length (Evt.m (List.getD l (0 + Int.toNat a) Enc.dflt))) (some (.row .still 3 0 (List.length (Evt.m (List.getD l (0 + Int.toNat a) Enc.dflt))) (encL (Evt.m (List.getD l (0 + Int.toNat a) Enc.dflt))))))) (K (.returned (.bool (Prod.fst (goL (rowL Evt l.length (some (.row .look 8 0 l.length (encL l)))) (rowL Ev.Ask A.length (some (.row .look 13 0 A.length (encL A)))) f (IntKind.wrap .i64 (a + (1 : Int))) d true (rowL Vl (List.length (Evt.m (List.getD l (0 + Int.toNat a) Enc.dflt))) (some (.row .still 3 0 (List.length (Evt.m (List.getD l (0 + Int.toNat a) Enc.dflt))) (encL (Evt.m (List.getD l (0 + Int.toNat a) Enc.dflt)))))) es)))) [some (.cells [.slice (some ⟨1, 0, some 0⟩) l.length cl, .slice (some ⟨2, 0, some 0⟩) A.length ca, .map (some 3)] true 0), some (.row .look 8 0 l.length (encL l)), some (.row .look 13 0 A.length (encL A)), some (AObj.omap Kk.s Vk.b (Prod.snd (goL (rowL Evt l.length (some (.row .look 8 0 l.length (encL l)))) (rowL Ev.Ask A.length (some (.row .look 13 0 A.length (encL A)))) f (IntKind.wrap .i64 (a + (1 : Int))) d true (rowL Vl (List.length (Evt.m (List.getD l (0 + Int.toNat a) Enc.dflt))) (some (.row .still 3 0 (List.length (Evt.m (List.getD l (0 + Int.toNat a) Enc.dflt))) (encL (Evt.m (List.getD l (0 + Int.toNat a) Enc.dflt)))))) es))), some (.row .look 3 0 m.length (encL m)), some (.cells [.int .i64 (IntKind.wrap .i64 (a + (1 : Int))), .int .u64 d, .bool true, .slice (some ⟨8, 0, some 0⟩) (List.length (Evt.m (List.getD l (0 + Int.toNat a) Enc.dflt))) (Evt.cm (List.getD l (0 + Int.toNat a) Enc.dflt))] true 0), some (.row .still 1 0 (List.length (Evt.a (List.getD l (0 + Int.toNat a) Enc.dflt))) (encL (Evt.a (List.getD l (0 + Int.toNat a) Enc.dflt)))), some (.row .still 3 0 (List.length (Evt.v (List.getD l (0 + Int.toNat a) Enc.dflt))) (encL (Evt.v (List.getD l (0 + Int.toNat a) Enc.dflt)))), some (.row .still 3 0 (List.length (Evt.m (List.getD l (0 + Int.toNat a) Enc.dflt))) (encL (Evt.m (List.getD l (0 + Int.toNat a) Enc.dflt)))), some (.cells [.int .i64 (Evt.k (List.getD l (0 + Int.toNat a) Enc.dflt)), .int .i64 (Evt.s (List.getD l (0 + Int.toNat a) Enc.dflt)), .int .i64 (Evt.i (List.getD l (0 + Int.toNat a) Enc.dflt)), .bool (Evt.w (List.getD l (0 + Int.toNat a) Enc.dflt)), .int .i64 (Evt.e (List.getD l (0 + Int.toNat a) Enc.dflt)), .slice (some ⟨6, 0, some 0⟩) (List.length (Evt.a (List.getD l (0 + Int.toNat a) Enc.dflt))) (Evt.ca (List.getD l (0 + Int.toNat a) Enc.dflt)), .slice (some ⟨7, 0, some 0⟩) (List.length (Evt.v (List.getD l (0 + Int.toNat a) Enc.dflt))) (Evt.cv (List.getD l (0 + Int.toNat a) Enc.dflt)), .slice (some ⟨8, 0, some 0⟩) (List.length (Evt.m (List.getD l (0 + Int.toNat a) Enc.dflt))) (Evt.cm (List.getD l (0 + Int.toNat a) Enc.dflt))] true 0), none])) (br
 (Evt.k (List.getD l (0 + Int.toNat a) Enc.dflt) == (2 : Int)) (LoopJ Try.prog β (exPs l cl A ca es a d b m c) 1 (loopOf Try.prog 21 1) (FPs A ca (0 : Int)) (SPl l cl A ca es a d b m c) ∧ (Ev.blocked A a d A.length = true → K (.returned (.bool false)) [some (.cells [.slice (some ⟨1, 0, some 0⟩) l.length cl, .slice (some ⟨2, 0, some 0⟩) A.length ca, .map (some 3)] true 0), some (.row .look 8 0 l.length (encL l)), some (.row .look 13 0 A.length (encL A)), some (AObj.omap Kk.s Vk.b es), some (.row .look 3 0 m.length (encL m))]) ∧ (Ev.blocked A a d A.length = false → need (rowB Evt l.length cl (some (.row .look 8 0 l.length (encL l))) && rowB Ev.Ask A.length ca (some (.row .look 13 0 A.length (encL A))) && rowB Vl m.length c (some (.row .look 3 0 m.length (encL m))) && okS (rowL Evt l.length (some (.row .look 8 0 l.length (encL l)))) (rowL Ev.Ask A.length (some (.row .look 13 0 A.length (encL A)))) f (IntKind.wrap .i64 (a + (1 : Int))) d b (rowL Vl m.length (some (.row .look 3 0 m.length (encL m))))) (K (.returned (.bool (Prod.fst (goL (rowL Evt l.length (some (.row .look 8 0 l.length (encL l)))) (rowL Ev.Ask A.length (some (.row .look 13 0 A.length (encL A)))) f (IntKind.wrap .i64 (a + (1 : Int))) d b (rowL Vl m.length (some (.row .look 3 0 m.length (encL m)))) es)))) [some (.cells [.slice (some ⟨1, 0, some 0⟩) l.length cl, .slice (some ⟨2, 0, some 0⟩) A.length ca, .map (some 3)] true 0), some (.row .look 8 0 l.length (encL l)), some (.row .look 13 0 A.length (encL A)), some (AObj.omap Kk.s Vk.b (Prod.snd (goL (rowL Evt l.length (some (.row .look 8 0 l.length (encL l)))) (rowL Ev.Ask A.length (some (.row .look 13 0 A.length (encL A)))) f (IntKind.wrap .i64 (a + (1 : Int))) d b (rowL Vl m.length (some (.row .look 3 0 m.length (encL m)))) es))), some (.row .look 3 0 m.length (encL m)), some (.cells [.int .i64 (IntKind.wrap .i64 (a + (1 : Int))), .int .u64 d, .bool b, .slice (some ⟨4, 0, some 0⟩) m.length c] true 0), none]))) (need (rowB Evt l.length cl (some (.row .look 8 0 l.length (encL l))) && rowB Ev.Ask A.length ca (some (.row .look 13 0 A.length (encL A))) && rowB Vl m.length c (some (.row .look 3 0 m.length (encL m))) && okS (rowL Evt l.length (some (.row .look 8 0 l.length (encL l)))) (rowL Ev.Ask A.length (some (.row .look 13 0 A.length (encL A)))) f (IntKind.wrap .i64 (a + (1 : Int))) d b (rowL Vl m.length (some (.row .look 3 0 m.length (encL m))))) (K (.returned (.bool (Prod.fst (goL (rowL Evt l.length (some (.row .look 8 0 l.length (encL l)))) (rowL Ev.Ask A.length (some (.row .look 13 0 A.length (encL A)))) f (IntKind.wrap .i64 (a + (1 : Int))) d b (rowL Vl m.length (some (.row .look 3 0 m.length (encL m)))) es)))) [some (.cells [.slice (some ⟨1, 0, some 0⟩) l.length cl, .slice (some ⟨2, 0, some 0⟩) A.length ca, .map (some 3)] true 0), some (.row .look 8 0 l.length (encL l)), some (.row .look 13 0 A.length (encL A)), some (AObj.omap Kk.s Vk.b (Prod.snd (goL (rowL Evt l.length (some (.row .look 8 0 l.length (encL l)))) (rowL Ev.Ask A.length (some (.row .look 13 0 A.length (encL A)))) f (IntKind.wrap .i64 (a + (1 : Int))) d b (rowL Vl m.length (some (.row .look 3 0 m.length (encL m)))) es))), some (.row .look 3 0 m.length (encL m)), some (.cells [.int .i64 (IntKind.wrap .i64 (a + (1 : Int))), .int .u64 d, .bool b, .slice (some ⟨4, 0, some 0⟩) m.length c] true 0), some (.row .still 1 0 (List.length (Evt.a (List.getD l (0 + Int.toNat a) Enc.dflt))) (encL (Evt.a (List.getD l (0 + Int.toNat a) Enc.dflt)))), some (.row .still 3 0 (List.length (Evt.v (List.getD l (0 + Int.toNat a) Enc.dflt))) (encL (Evt.v (List.getD l (0 + Int.toNat a) Enc.dflt)))), some (.row .still 3 0 (List.length (Evt.m (List.getD l (0 + Int.toNat a) Enc.dflt))) (encL (Evt.m (List.getD l (0 + Int.toNat a) Enc.dflt)))), some (.cells [.int .i64 (Evt.k (List.getD l (0 + Int.toNat a) Enc.dflt)), .int .i64 (Evt.s (List.getD l (0 + Int.toNat a) Enc.dflt)), .int .i64 (Evt.i (List.getD l (0 + Int.toNat a) Enc.dflt)), .bool
 (Evt.w (List.getD l (0 + Int.toNat a) Enc.dflt)), .int .i64 (Evt.e (List.getD l (0 + Int.toNat a) Enc.dflt)), .slice (some ⟨6, 0, some 0⟩) (List.length (Evt.a (List.getD l (0 + Int.toNat a) Enc.dflt))) (Evt.ca (List.getD l (0 + Int.toNat a) Enc.dflt)), .slice (some ⟨7, 0, some 0⟩) (List.length (Evt.v (List.getD l (0 + Int.toNat a) Enc.dflt))) (Evt.cv (List.getD l (0 + Int.toNat a) Enc.dflt)), .slice (some ⟨8, 0, some 0⟩) (List.length (Evt.m (List.getD l (0 + Int.toNat a) Enc.dflt))) (Evt.cm (List.getD l (0 + Int.toNat a) Enc.dflt))] true 0), none])))))))) := by kernel_rfl
theorem vc_ps_r (l : List Evt) (cl : Nat) (A : List Ask) (ca : Nat) (es : Es) (a d : Int) (b : Bool) (m : List Vl) (c : Nat) (i : Int) (f : Nat) (β : Bs) (N : Kt) (ex : Nat → Kt → Prop) : roundJ Try.prog (toldG f) 100 20 β (fun _ => 0) (cnOf 5 fun _ => slPs) ex 21 1 5 lvPs (FPs A ca i) (SPl l cl A ca es a d b m c) N =
 (br (decide (i < Int.ofNat A.length)) (need (decide ((0 : Int) ≤ i)) (need (Nat.blt (Int.toNat i) A.length) (need (Nat.ble 0 (0 + Int.toNat i) && Nat.blt (0 + Int.toNat i) A.length) (br (Ask.mu (List.getD A (0 + Int.toNat i) Enc.dflt)) (br (Ask.to (List.getD A (0 + Int.toNat i) Enc.dflt) == a) (need (decide ((0 : Int) ≤ i)) (br (IntKind.wrap .u64 (Int.ofNat (BitVec.toNat (BitVec.ofInt 64 (Int.fdiv d ((2 : Int) ^ min (Int.toNat i) 64)) &&& BitVec.ofInt 64 (1 : Int)))) == (0 : Int)) (onP N .ret (shpPsr l cl A ca es m false)) (onP N .normal (shpPs l cl A ca es a d b m c (IntKind.wrap .i64 (i + (1 : Int))))))) (onP N .normal (shpPs l cl A ca es a d b m c (IntKind.wrap .i64 (i + (1 : Int)))))) (onP N .normal (shpPs l cl A ca es a d b m c (IntKind.wrap .i64 (i + (1 : Int))))))))) (onP N (.exit 1) (shpPs l cl A ca es a d b m c i))) := by kernel_rfl
theorem vc_psn (l : List Evt) (cl : Nat) (A : List Ask) (ca : Nat) (es : Es) (f : Nat) (β : Bs) (K : AE → List (Option AObj) → Prop) : lawE Try.prog (toldG f) 100 20 β (fun _ => 0) (cnOf 4 fun _ => slPs) (fun _ _ => False) 21 [.pointer (some ⟨0, 0, none⟩), .agg ⟨svN⟩] (mkS (viN l cl A ca es)) (outK K) =
 (br ((0 : Int) == Int.ofNat l.length) (K (.returned (.bool true)) [some (.cells [.slice (some ⟨1, 0, some 0⟩) l.length cl, .slice (some ⟨2, 0, some 0⟩) A.length ca, .map (some 3)] true 0), some (.row .look 8 0 l.length (encL l)), some (.row .look 13 0 A.length (encL A)), some (AObj.omap Kk.s Vk.b es), some (.cells [.int .i64 (0 : Int), .int .u64 (0 : Int), .bool false, .slice none 0 0] true 0)]) (need (Nat.blt 0 l.length) (need (true && Nat.blt 0 l.length) (br (Evt.k (List.getD l 0 Enc.dflt) == (3 : Int)) (need (rowB Evt l.length cl (some (.row .look 8 0 l.length (encL l))) && rowB Ev.Ask A.length ca (some (.row .look 13 0 A.length (encL A))) && rowB Vl (List.length (Evt.m (List.getD l 0 Enc.dflt))) (Evt.cm (List.getD l 0 Enc.dflt)) (some (.row .still 3 0 (List.length (Evt.m (List.getD l 0 Enc.dflt))) (encL (Evt.m (List.getD l 0 Enc.dflt))))) && okS (rowL Evt l.length (some (.row .look 8 0 l.length (encL l)))) (rowL Ev.Ask A.length (some (.row .look 13 0 A.length (encL A)))) f (1 : Int) (0 : Int) true (rowL Vl (List.length (Evt.m (List.getD l 0 Enc.dflt))) (some (.row .still 3 0 (List.length (Evt.m (List.getD l 0 Enc.dflt))) (encL (Evt.m (List.getD l 0 Enc.dflt))))))) (K (.returned (.bool (Prod.fst (goL (rowL Evt l.length (some (.row .look 8 0 l.length (encL l)))) (rowL Ev.Ask A.length (some (.row .look 13 0 A.length (encL A)))) f (1 : Int) (0 : Int) true (rowL Vl (List.length (Evt.m (List.getD l 0 Enc.dflt))) (some (.row .still 3 0 (List.length (Evt.m (List.getD l 0 Enc.dflt))) (encL (Evt.m (List.getD l 0 Enc.dflt)))))) es)))) [some (.cells [.slice (some ⟨1, 0, some 0⟩) l.length cl, .slice (some ⟨2, 0, some 0⟩) A.length ca, .map (some 3)] true 0), some (.row .look 8 0 l.length (encL l)), some (.row .look 13 0 A.length (encL A)), some (AObj.omap Kk.s Vk.b (Prod.snd (goL (rowL Evt l.length (some (.row .look 8 0 l.length (encL l)))) (rowL Ev.Ask A.length (some (.row .look 13 0 A.length (encL A)))) f (1 : Int) (0 : Int) true (rowL Vl (List.length (Evt.m (List.getD l 0 Enc.dflt))) (some (.row .still 3 0 (List.length (Evt.m (List.getD l 0 Enc.dflt))) (encL (Evt.m (List.getD l 0 Enc.dflt)))))) es))), some (.cells [.int .i64 (1 : Int), .int .u64 (0 : Int), .bool true, .slice (some ⟨7, 0, some 0⟩) (List.length (Evt.m (List.getD l 0 Enc.dflt))) (Evt.cm (List.getD l 0 Enc.dflt))] true 0), some (.row .still 1 0 (List.length (Evt.a (List.getD l 0 Enc.dflt))) (encL (Evt.a (List.getD l 0 Enc.dflt)))), some (.row .still 3 0 (List.length (Evt.v (List.getD l 0 Enc.dflt))) (encL (Evt.v (List.getD l 0 Enc.dflt)))), some (.row .still 3 0 (List.length (Evt.m (List.getD l 0 Enc.dflt))) (encL (Evt.m (List.getD l 0 Enc.dflt)))), some (.cells [.int .i64 (Evt.k (List.getD l 0 Enc.dflt)), .int .i64 (Evt.s (List.getD l 0 Enc.dflt)), .int .i64 (Evt.i (List.getD l 0 Enc.dflt)), .bool (Evt.w (List.getD l 0 Enc.dflt)), .int .i64 (Evt.e (List.getD l 0 Enc.dflt)), .slice (some ⟨5, 0, some 0⟩) (List.length (Evt.a (List.getD l 0 Enc.dflt))) (Evt.ca (List.getD l 0 Enc.dflt)), .slice (some ⟨6, 0, some 0⟩) (List.length (Evt.v (List.getD l 0 Enc.dflt))) (Evt.cv (List.getD l 0 Enc.dflt)), .slice (some ⟨7, 0, some 0⟩) (List.length (Evt.m (List.getD l 0 Enc.dflt))) (Evt.cm (List.getD l 0 Enc.dflt))] true 0), none])) (need (Evt.k (List.getD l 0 Enc.dflt) == (2 : Int)) (LoopJ Try.prog β (fun x x_1 => False) 1 (loopOf Try.prog 21 1) (mkF 69 [(0, .pointer (some ⟨0, 0, none⟩)), (3, .pointer (some ⟨4, 0, none⟩)), (37, .slice (some ⟨2, 0, some 0⟩) A.length ca), (38, .int .i64 (Int.ofNat A.length)), (39, .int .i64 (0 : Int))]) (mkS [some (.cells [.slice (some ⟨1, 0, some 0⟩) l.length cl, .slice (some ⟨2, 0, some 0⟩) A.length ca, .map (some 3)] true 0), some (.row .look 8 0 l.length (encL l)), some (.row .look 13 0 A.length (encL A)), some (AObj.omap Kk.s Vk.b es), some (.cells [.int .i64 (0 : Int), .int .u64 (0 : Int), .bool false, .slice none 0 0] true 0)]) ∧ False)))))) := by kernel_rfl
end Go.Proofs.Ytjibiphgbhlhkaa.Ev
end
