/-
  mail.Drain: cells behind all that waits.
-/
import Derived.Test.YtpejhdbllphdaaaMlDV
set_option linter.unusedVariables false
set_option linter.unusedSimpArgs false
namespace Go.Proofs.Ytpejhdbllphdaaa.Ev
open Go Go.Proofs Go.RowKit

/-- a row in which one element is another one -/
theorem row_put {α : Type} [Enc α] {k : Rk} {l : List α} {a : α} {ts : List Td} {i0 : Nat} {ρ : Rho} {s : Spot} {w : World} (hl : ts.length = Enc.es α) (h : ∀ j, j < Enc.es α → nthT ts j = Enc.enc a j)
    (hi : i0 < l.length) (ho : ObjR ρ (.row k (Enc.es α) 0 l.length (putT i0 0 ts (encL l))) s w) : ObjR ρ (.row k (Enc.es α) 0 (l.set i0 a).length (encL (l.set i0 a))) s w := by
  refine ho.row_TR (by simp) fun i _ hil j hj F y ht => ?_
  have hb : (Nat.ble 0 j && Nat.blt j (0 + ts.length)) = true := by rw [hl]; simp; exact hj
  unfold putT at ht
  rw [hb] at ht
  simp only [cond_true, Nat.sub_zero] at ht
  rw [h j hj] at ht
  show TR w F (Enc.enc ((l.set i0 a).getD i Enc.dflt) j) y
  by_cases hii : i = i0
  · subst hii
    rw [Nat.beq_refl] at ht
    have : (l.set i a).getD i Enc.dflt = a := by simp [List.getD, hi]
    rw [this]
    exact (Enc.mrg _ _ w F j y hj).1 ht
  · rw [beq_false hii] at ht
    have : (l.set i0 a).getD i Enc.dflt = l.getD i Enc.dflt := by simp [List.getD, List.getElem?_set_ne (Ne.symm hii)]
    rw [this]
    exact (Enc.mrg a (l.getD i Enc.dflt) w F j y hj).2 ht
theorem dr1_len (w : Wr) (out : List Vl) (k : Nat) : (dr1 w out k).length = out.length := by
  unfold dr1; split <;> simp
theorem drW_len (w : Wr) (out : List Vl) (k : Nat) : (drW w out k).length = out.length := by
  induction k with
  | zero => rfl
  | succ k ih => simp only [drW, dr1_len, ih]
theorem drL_len (l : List Wr) (out : List Vl) (k : Nat) : (drL l out k).length = out.length := by
  induction k with
  | zero => rfl
  | succ k ih => simp only [drL, drW_len, ih]
theorem di_loop {l : List Wr} {img out : List Vl} {w : Wr} {c co : Nat} {i : Int} {β : Bs} (hβ : β.X.length = 2) (hw6 : w.a.length ≤ 1000000) : LoopJ Try.prog β (exDi l img out w c co i) 2 (loopOf Try.prog 8 2) (FDi l out w c co i (0 : Nat)) (SDi l img out w) := by
  refine loop_rule (fun k : Nat => k ≤ w.a.length) (fun k => FDi l (drW w out k) w c co i k) (fun k => SDi l img (drW w out k) w) (fun k => w.a.length - k) (fun k hk K hK => ?_) 0 (Nat.zero_le _)
  have hK : K (.exit 2) (FDo l (drW w out w.a.length) c co i) (SDo l img (drW w out w.a.length)) := hK
  show J _ β _ _ _ (Nn β (fun k : Nat => k ≤ w.a.length) (fun k => w.a.length - k) (fun k : Nat => FDi l (drW w out k) w c co i k) (fun k => SDi l img (drW w out k) w) k K)
  refine roundJ_ok (E := 2) (lvs := lvD) (un := fun _ => 0) (fuel := 100) (n := 20) (ex := fun _ _ => False) follows toldT_ok hβ (lv := lvDi) ?_
  rw [vc_di_r]
  by_cases hkn : k < w.a.length
  · have c1 : decide ((k : Int) < Int.ofNat w.a.length) = true := by simpa using hkn
    have c2 : decide ((0 : Int) ≤ (k : Int)) = true := by simp
    have e0 : Int.toNat (k : Int) = k := Int.toNat_natCast k
    have c3 : Nat.blt k w.a.length = true := by simpa using hkn
    have c5 : Nat.ble 0 k = true := by simp
    have hw : IntKind.wrap .i64 ((k : Int) + 1) = ((k + 1 : Nat) : Int) := w64 (by omega) (by omega)
    simp only [c1, c2, e0, Nat.zero_add, c3, c5, Bool.true_and, br_t, need_t, hw]
    have hid : (¬ (0 ≤ w.a.getD k Enc.dflt ∧ w.a.getD k Enc.dflt < Int.ofNat (drW w out k).length ∧ k < w.v.length)) → onP (Nn β (fun k : Nat => k ≤ w.a.length) (fun k => w.a.length - k) (fun k : Nat => FDi l (drW w out k) w c co i k) (fun k => SDi l img (drW w out k) w) k K) .normal (shpDi l img (drW w out k) w c co i ((k + 1 : Nat) : Int)) := fun hn => by
      have : drW w out (k + 1) = drW w out k := by show dr1 w (drW w out k) k = _; unfold dr1; rw [if_neg hn]
      refine Nn.next (I := fun k : Nat => k ≤ w.a.length) (m := fun k => w.a.length - k) (F := fun k : Nat => FDi l (drW w out k) w c co i k) (S := fun k => SDi l img (drW w out k) w) (p := k) (k + 1) hkn (by omega) ?_
      rw [this]
      exact Seen.refl _ _ _
    have hdef : w.a.getD k (0 : Int) = w.a.getD k Enc.dflt := rfl
    rw [hdef]
    generalize hat : w.a.getD k Enc.dflt = at_ at hid ⊢
    refine br_of (fun q1 => ?_) (fun q1 => hid fun h => by simp at q1; omega)
    refine br_of (fun q2 => ?_) (fun q2 => hid fun h => by simp at q2; have := h.2.1; simp at this; omega)
    refine br_of (fun q3 => ?_) (fun q3 => hid fun h => by simp at q3; omega)
    have q1 := of_decide_eq_true q1
    have q2 := of_decide_eq_true q2
    have q3 := of_decide_eq_true q3
    have q1' : (0 : Int) ≤ at_ := q1
    have q2' : at_ < ((drW w out k).length : Int) := q2
    have q3' : k < w.v.length := by simpa using q3
    have b1 : Nat.blt k w.v.length = true := by simpa using q3'
    have b2 : decide ((0 : Int) ≤ at_) = true := decide_eq_true q1'
    have hlt : at_.toNat < (drW w out k).length := by omega
    have b3 : Nat.blt at_.toNat (drW w out k).length = true := by simpa using hlt
    simp only [b1, b2, b3, need_t]
    have hd : drW w out (k + 1) = (drW w out k).set at_.toNat (w.v.getD k Enc.dflt) := by
      show dr1 w (drW w out k) k = _
      unfold dr1
      rw [hat, if_pos ⟨q1', q2, q3'⟩]
    refine Nn.next (I := fun k : Nat => k ≤ w.a.length) (m := fun k => w.a.length - k) (F := fun k : Nat => FDi l (drW w out k) w c co i k) (S := fun k => SDi l img (drW w out k) w) (p := k) (k + 1) hkn (by omega) ?_
    rw [hd]
    have hF : FDi l ((drW w out k).set at_.toNat (w.v.getD k Enc.dflt)) w c co i ((k + 1 : Nat) : Int) = FDi l (drW w out k) w c co i ((k + 1 : Nat) : Int) := by
      unfold FDi; rw [List.length_set]
    rw [hF]
    refine Seen.objs rfl fun q o2 h => ?_
    match q, h with
    | 0, h => cases h; exact ⟨_, rfl, rfl, fun _ _ _ h => h⟩
    | 1, h => cases h; exact ⟨_, rfl, rfl, fun _ _ _ h => h⟩
    | 2, h =>
      cases h
      refine ⟨_, rfl, rfl, fun ρ s w' h => row_put (α := Vl) rfl (fun j hj => ?_) hlt h⟩
      match j, hj with
      | 0, _ => rfl
      | 1, _ => rfl
      | 2, _ => rfl
    | 3, h => cases h; exact ⟨_, rfl, rfl, fun _ _ _ h => h⟩
    | 4, h => cases h; exact ⟨_, rfl, rfl, fun _ _ _ h => h⟩
    | 5, h => cases h; exact ⟨_, rfl, rfl, fun _ _ _ h => h⟩
  · have c1 : decide ((k : Int) < Int.ofNat w.a.length) = false := by simpa using hkn
    have hkn' : k = w.a.length := by omega
    simp only [c1, br_f]
    subst hkn'
    exact Nn.exit (Seen.refl _ _ _) hK
theorem do_loop {l : List Wr} {img : List Vl} {c co : Nat} {β : Bs} (hβ : β.X.length = 2) (hn6 : l.length ≤ 1000000) (hok : l.all (okA Wr) = true) : LoopJ Try.prog β (exDo l img c co) 0 (loopOf Try.prog 8 0) (FDo l img c co (0 : Nat)) (SDo l img img) := by
  refine loop_rule (fun k : Nat => k ≤ l.length) (fun k => FDo l (drL l img k) c co k) (fun k => SDo l img (drL l img k)) (fun k => l.length - k) (fun k hk K hK => ?_) 0 (Nat.zero_le _)
  have hK : K (.exit 0) (FDo l (drL l img l.length) c co l.length) (SDo l img (drL l img l.length)) := hK
  show J _ β _ _ _ (Nn β (fun k : Nat => k ≤ l.length) (fun k => l.length - k) (fun k : Nat => FDo l (drL l img k) c co k) (fun k => SDo l img (drL l img k)) k K)
  refine roundJ_ok (E := 2) (lvs := lvD) (un := fun _ => 0) (fuel := 100) (n := 20) (ex := exDi l img (drL l img k) (l.getD (k : Int).toNat Enc.dflt) c co k) follows toldT_ok hβ (lv := lvDo) ?_
  rw [vc_do_r]
  by_cases hkn : k < l.length
  · have c1 : decide ((k : Int) < Int.ofNat l.length) = true := by simpa using hkn
    have c2 : decide ((0 : Int) ≤ (k : Int)) = true := by simp
    have e0 : Int.toNat (k : Int) = k := Int.toNat_natCast k
    have c3 : Nat.blt k l.length = true := by simpa using hkn
    have c5 : Nat.ble 0 k = true := by simp
    have hw : IntKind.wrap .i64 ((k : Int) + 1) = ((k + 1 : Nat) : Int) := w64 (by omega) (by omega)
    obtain ⟨w1, w2, w3, w4⟩ := okA_wr_inv (all_at hok hkn)
    simp only [c1, c2, e0, Nat.zero_add, c3, c5, Bool.true_and, br_t, need_t, hw]
    refine ⟨di_loop (w := l.getD k Enc.dflt) hβ w2, ?_⟩
    exact Nn.next (I := fun k : Nat => k ≤ l.length) (m := fun k => l.length - k) (F := fun k : Nat => FDo l (drL l img k) c co k) (S := fun k => SDo l img (drL l img k)) (p := k) (k + 1) hkn (by omega) (Seen.refl _ _ _)
  · have c1 : decide ((k : Int) < Int.ofNat l.length) = false := by simpa using hkn
    have hkn' : k = l.length := by omega
    simp only [c1, br_f]
    subst hkn'
    exact Nn.exit (Seen.refl _ _ _) hK
theorem drain_told : ToldW Try.prog 8 (ok2 Wr Vl fun l _ _ _ => l.all (okA Wr)) (ans2 Wr Vl fun l _ m d => .ret (.cell (ownL (drL l m l.length) d))) := by
  refine told2 follows fun l c m d hl hc hm hd hok => ⟨toldT, 100, 20, fun _ => 0, lvD, exDo l m c d, toldT_ok, fun β hβ => ?_⟩
  show lawE _ _ _ _ _ _ (cnOf 2 lvD) _ _ _ _ _
  rw [vc_dr]
  have hz : (fun i => encL m (0 + i)) = encL m := by funext i; rw [Nat.zero_add]
  refine need_of (by simp) (need_of (okC_of hm hd) ⟨?_, ?_⟩)
  · rw [hz]; exact do_loop hβ hl hok
  · exact ⟨[2], .inr (.inl ⟨2, 0, 0, (drL l m l.length).length, encL (drL l m l.length), d, rfl, rfl, fun _ => rfl, rfl, Nat.le_refl _, by omega, fun i hi j hj => by rw [Nat.zero_add]⟩), by simp⟩
end Go.Proofs.Ytpejhdbllphdaaa.Ev
