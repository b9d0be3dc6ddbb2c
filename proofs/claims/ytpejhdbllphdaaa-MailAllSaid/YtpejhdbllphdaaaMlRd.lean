/-
  The document's Drain: cells behind all that waits.
-/
import Derived.Test.YtpejhdbllphdaaaMlRV
set_option linter.unusedVariables false
set_option linter.unusedSimpArgs false
namespace Go.Proofs.Ytpejhdbllphdaaa.Ev
open Go Go.Proofs Go.RowKit

theorem drW_stop (w : Wr) (out : List Vl) {k : Nat} (h : w.v.length ≤ k) : ∀ n, k ≤ n → drW w out n = drW w out k := by
  intro n hn
  obtain ⟨d, rfl⟩ := Nat.exists_eq_add_of_le hn
  clear hn
  induction d with
  | zero => rfl
  | succ d ih =>
    show dr1 w (drW w out (k + d)) (k + d) = _
    rw [ih]
    unfold dr1
    rw [if_neg (by omega)]
theorem ri_loop {l : List Wr} {img out : List Vl} {c i : Nat} {β : Bs} (hβ : β.X.length = 2) (hi : i < l.length) (hw6 : (l.getD i Enc.dflt).a.length ≤ 1000000) : LoopJ Try.prog β (exRi l img out (l.getD i Enc.dflt) c i) 2 (loopOf Try.prog 13 2) (FRi l out c i (0 : Nat)) (SDo l img out) := by
  generalize hw0 : l.getD i Enc.dflt = w at hw6 ⊢
  refine loop_rule (fun k : Nat => k ≤ w.a.length) (fun k => FRi l (drW w out k) c i k) (fun k => SDo l img (drW w out k)) (fun k => w.a.length - k) (fun k hk K hK => ?_) 0 (Nat.zero_le _)
  have hK : K (.exit 2) (FRo l (drW w out w.a.length) c i) (SDo l img (drW w out w.a.length)) := hK
  show J _ β _ _ _ (Nn β (fun k : Nat => k ≤ w.a.length) (fun k => w.a.length - k) (fun k : Nat => FRi l (drW w out k) c i k) (fun k => SDo l img (drW w out k)) k K)
  refine roundJ_ok (E := 2) (lvs := lvR) (un := fun _ => 0) (fuel := 100) (n := 20) (ex := fun _ _ => False) follows toldT_ok hβ (lv := lvRi) ?_
  rw [vc_ri_r]
  have i1 : decide ((0 : Int) ≤ (i : Int)) = true := by simp
  have i2 : Int.toNat (i : Int) = i := Int.toNat_natCast i
  have i3 : Nat.blt i l.length = true := by simpa using hi
  have i4 : Nat.ble 0 i = true := by simp
  have c2 : decide ((0 : Int) ≤ (k : Int)) = true := by simp
  have e0 : Int.toNat (k : Int) = k := Int.toNat_natCast k
  have c5 : Nat.ble 0 k = true := by simp
  simp only [i1, i2, i3, i4, c2, e0, c5, Nat.zero_add, Bool.true_and, need_t, hw0]
  by_cases hkn : k < w.a.length
  · have c1 : decide ((k : Int) < Int.ofNat w.a.length) = true := by simpa using hkn
    have c3 : Nat.blt k w.a.length = true := by simpa using hkn
    have hw : IntKind.wrap .i64 ((k : Int) + 1) = ((k + 1 : Nat) : Int) := w64 (by omega) (by omega)
    simp only [c1, c3, br_t, need_t, hw]
    refine br_of (fun q3 => ?_) (fun q3 => ?_)
    · have q3' : k < w.v.length := by simpa using q3
      have b1 : Nat.blt k w.v.length = true := by simpa using q3'
      simp only [b1, need_t]
      have hid : (¬ (0 ≤ w.a.getD k Enc.dflt ∧ w.a.getD k Enc.dflt < Int.ofNat (drW w out k).length ∧ k < w.v.length)) → onP (Nn β (fun k : Nat => k ≤ w.a.length) (fun k => w.a.length - k) (fun k : Nat => FRi l (drW w out k) c i k) (fun k => SDo l img (drW w out k)) k K) .normal (shpRi l img (drW w out k) c i ((k + 1 : Nat) : Int)) := fun hn => by
        have : drW w out (k + 1) = drW w out k := by show dr1 w (drW w out k) k = _; unfold dr1; rw [if_neg hn]
        refine Nn.next (I := fun k : Nat => k ≤ w.a.length) (m := fun k => w.a.length - k) (F := fun k : Nat => FRi l (drW w out k) c i k) (S := fun k => SDo l img (drW w out k)) (p := k) (k + 1) hkn (by omega) ?_
        rw [this]
        exact Seen.refl _ _ _
      have hdef : w.a.getD k (0 : Int) = w.a.getD k Enc.dflt := rfl
      rw [hdef]
      generalize hat : w.a.getD k Enc.dflt = at_ at hid ⊢
      refine br_of (fun q1 => ?_) (fun q1 => hid fun h => by simp at q1; omega)
      refine br_of (fun q2 => ?_) (fun q2 => hid fun h => by simp at q2; have := h.2.1; simp at this; omega)
      have q1' : (0 : Int) ≤ at_ := of_decide_eq_true q1
      have q2' : at_ < ((drW w out k).length : Int) := of_decide_eq_true q2
      have b2 : decide ((0 : Int) ≤ at_) = true := decide_eq_true q1'
      have hlt : at_.toNat < (drW w out k).length := by omega
      have b3 : Nat.blt at_.toNat (drW w out k).length = true := by simpa using hlt
      simp only [b2, b3, need_t]
      have hd : drW w out (k + 1) = (drW w out k).set at_.toNat (w.v.getD k Enc.dflt) := by
        show dr1 w (drW w out k) k = _
        unfold dr1
        rw [hat, if_pos ⟨q1', q2', q3'⟩]
      refine Nn.next (I := fun k : Nat => k ≤ w.a.length) (m := fun k => w.a.length - k) (F := fun k : Nat => FRi l (drW w out k) c i k) (S := fun k => SDo l img (drW w out k)) (p := k) (k + 1) hkn (by omega) ?_
      rw [hd]
      have hF : FRi l ((drW w out k).set at_.toNat (w.v.getD k Enc.dflt)) c i ((k + 1 : Nat) : Int) = FRi l (drW w out k) c i ((k + 1 : Nat) : Int) := by
        unfold FRi; rw [List.length_set]
      rw [hF]
      refine Seen.three rfl rfl rfl (fun _ _ _ h => h) (fun _ _ _ h => h) fun ρ s w' h => row_put (α := Vl) rfl (fun j hj => ?_) hlt h
      match j, hj with
      | 0, _ => rfl
      | 1, _ => rfl
      | 2, _ => rfl
    · have q3' : w.v.length ≤ k := by simpa using q3
      rw [drW_stop w out q3' _ hk] at hK
      exact Nn.exit (Seen.refl _ _ _) hK
  · have c1 : decide ((k : Int) < Int.ofNat w.a.length) = false := by simpa using hkn
    have hkn' : k = w.a.length := by omega
    simp only [c1, br_f]
    subst hkn'
    exact Nn.exit (Seen.refl _ _ _) hK
theorem ro_loop {l : List Wr} {img : List Vl} {c : Nat} {β : Bs} (hβ : β.X.length = 2) (hn6 : l.length ≤ 1000000) (hok : l.all (okA Wr) = true) : LoopJ Try.prog β (exRo l img c) 0 (loopOf Try.prog 13 0) (FRo l img c (0 : Nat)) (SDo l img img) := by
  refine loop_rule (fun k : Nat => k ≤ l.length) (fun k => FRo l (drL l img k) c k) (fun k => SDo l img (drL l img k)) (fun k => l.length - k) (fun k hk K hK => ?_) 0 (Nat.zero_le _)
  have hK : K (.exit 0) (FRo l (drL l img l.length) c l.length) (SDo l img (drL l img l.length)) := hK
  show J _ β _ _ _ (Nn β (fun k : Nat => k ≤ l.length) (fun k => l.length - k) (fun k : Nat => FRo l (drL l img k) c k) (fun k => SDo l img (drL l img k)) k K)
  refine roundJ_ok (E := 2) (lvs := lvR) (un := fun _ => 0) (fuel := 100) (n := 20) (ex := exRi l img (drL l img k) (l.getD (k : Int).toNat Enc.dflt) c k) follows toldT_ok hβ (lv := lvRo) ?_
  rw [vc_ro_r]
  by_cases hkn : k < l.length
  · have c1 : decide ((k : Int) < Int.ofNat l.length) = true := by simpa using hkn
    have e0 : Int.toNat (k : Int) = k := Int.toNat_natCast k
    have hw : IntKind.wrap .i64 ((k : Int) + 1) = ((k + 1 : Nat) : Int) := w64 (by omega) (by omega)
    obtain ⟨w1, w2, w3, w4⟩ := okA_wr_inv (all_at hok hkn)
    simp only [c1, e0, br_t, hw]
    refine ⟨ri_loop hβ hkn w2, ?_⟩
    exact Nn.next (I := fun k : Nat => k ≤ l.length) (m := fun k => l.length - k) (F := fun k : Nat => FRo l (drL l img k) c k) (S := fun k => SDo l img (drL l img k)) (p := k) (k + 1) hkn (by omega) (Seen.refl _ _ _)
  · have c1 : decide ((k : Int) < Int.ofNat l.length) = false := by simpa using hkn
    have hkn' : k = l.length := by omega
    simp only [c1, br_f]
    subst hkn'
    exact Nn.exit (Seen.refl _ _ _) hK
theorem rdrain_told : ToldW Try.prog 13 (ok2 Wr Vl fun l _ _ _ => l.all (okA Wr)) (ans2 Wr Vl fun l _ m d => .ret (.cell (ownL (drL l m l.length) 0))) := by
  refine told2 follows fun l c m d hl hc hm hd hok => ⟨toldT, 100, 20, fun _ => 0, lvR, exRo l m c, toldT_ok, fun β hβ => ?_⟩
  show lawE _ _ _ _ _ _ (cnOf 2 lvR) _ _ _ _ _
  rw [vc_rd]
  have hz : (fun i => encL m (0 + i)) = encL m := by funext i; rw [Nat.zero_add]
  refine need_of (by simp) (need_of (by simpa using hm) ⟨?_, ?_⟩)
  · rw [hz]; exact ro_loop hβ hl hok
  · exact ⟨[2], .inr (.inl ⟨2, 0, 0, (drL l m l.length).length, encL (drL l m l.length), 0, rfl, rfl, fun _ => rfl, rfl, Nat.le_refl _, by omega, fun i hi j hj => by rw [Nat.zero_add]⟩), by simp⟩
end Go.Proofs.Ytpejhdbllphdaaa.Ev
