/-
  mail.twin: a row of writes of its own.
-/
import Derived.Test.YtpejhdbllphdaaaMlTV
set_option linter.unusedVariables false
set_option linter.unusedSimpArgs false
namespace Go.Proofs.Ytpejhdbllphdaaa.Ev
open Go Go.Proofs Go.RowKit

theorem all_at {l : List Wr} (h : l.all (okA Wr) = true) {k : Nat} (hk : k < l.length) : okA Wr (l.getD k Enc.dflt) = true := by
  rw [List.all_eq_true] at h
  exact h _ (by simp [List.getD, hk])
theorem tw_round {l : List Wr} {c : Nat} {β : Bs} (hβ : β.X.length = 1) (hn6 : l.length ≤ 1000000) (hok : l.all (okA Wr) = true) (K : Kt) (h1 : K (.exit 0) (FTw l l c l.length) (STw l l)) (k : Nat) (hk : k ≤ l.length) :
    J Try.prog β (loopOf Try.prog 15 0) (FTw l (l.take k) c k) (STw l (l.take k)) (Nn β (fun k : Nat => k ≤ l.length) (fun k => l.length - k) (fun k => FTw l (l.take k) c k) (fun k => STw l (l.take k)) k K) := by
  refine roundJ_ok (E := 1) (lvs := fun _ => slT) (un := fun _ => 0) (fuel := 100) (n := 20) (ex := fun _ _ => False) follows toldC_ok hβ (lv := lvT) ?_
  rw [vc_tw_r]
  by_cases hkn : k < l.length
  · have c1 : decide ((k : Int) < Int.ofNat l.length) = true := by simpa using hkn
    have c2 : decide ((0 : Int) ≤ (k : Int)) = true := by simp
    have e0 : Int.toNat (k : Int) = k := Int.toNat_natCast k
    have c3 : Nat.blt k l.length = true := by simpa using hkn
    have c5 : Nat.ble 0 k = true := by simp
    have hw : IntKind.wrap .i64 ((k : Int) + 1) = ((k + 1 : Nat) : Int) := w64 (by omega) (by omega)
    obtain ⟨w1, w2, w3, w4⟩ := okA_wr_inv (all_at hok hkn)
    have hlen : (l.take k).length = k := by simp; omega
    have c6 : Nat.ble ((l.take k).length + 1) 1000000 = true := Nat.ble_eq_true_of_le (by omega)
    simp only [c1, c2, e0, Nat.zero_add, c3, c5, Bool.true_and, br_t, need_t, hw, okC_of w2 w1, okC_of w4 w3, bleS, c6]
    refine Nn.next (I := fun k : Nat => k ≤ l.length) (m := fun k => l.length - k) (F := fun k : Nat => FTw l (l.take k) c k) (S := fun k => STw l (l.take k)) (k + 1) hkn (by omega) ?_
    have hnx := take_succ hkn (Enc.dflt : Wr)
    have hl2 : (l.take (k + 1)).length = (l.take k).length + 1 := by rw [hnx]; simp
    have hF : FTw l (l.take (k + 1)) c ((k + 1 : Nat) : Int) = mkF 18 [(2, .slice (some ⟨1, 0, some 0⟩) ((l.take k).length + 1) 1), (5, .slice (some ⟨0, 0, some 0⟩) l.length c), (6, .int .i64 (Int.ofNat l.length)), (7, .int .i64 ((k + 1 : Nat) : Int))] := by
      unfold FTw; rw [hl2]
    rw [hF]
    refine Seen.two rfl rfl (fun _ _ _ h => h) fun ρ s w h => ?_
    show ObjR ρ (.row .mine 4 0 (l.take (k + 1)).length (encL (l.take (k + 1)))) s w
    rw [hnx]
    refine row_app (es := 4) (n := (l.take k).length) (g := fun i j => encL (l.take k) i j) (ts := _) rfl rfl (fun i j => rfl) (fun j hj => ?_) (by simpa only [Nat.zero_add] using h)
    match j, hj with
    | 0, _ => rfl
    | 1, _ => rfl
    | 2, _ => rfl
    | 3, _ => rfl
  · have c1 : decide ((k : Int) < Int.ofNat l.length) = false := by simpa using hkn
    have hkn' : k = l.length := by omega
    simp only [c1, br_f]
    subst hkn'
    rw [List.take_length]
    exact Nn.exit (Seen.refl _ _ _) h1
theorem twin_told : ToldW Try.prog 15 (ok1 Wr fun l _ => l.all (okA Wr)) (ans1 Wr fun l _ => .ret (.cell (ownL l 1))) := by
  refine told1 follows fun l c hl hc hok => ⟨toldC, 100, 20, fun _ => 0, fun _ => slT, exT l c, toldC_ok, fun β hβ => ?_⟩
  show lawE _ _ _ _ _ _ (cnOf 1 fun _ => slT) _ _ _ _ _
  rw [vc_tw]
  refine ⟨LoopJ.seen (f1 := FTw l (l.take 0) c (0 : Nat)) (st1 := STw l (l.take 0)) (Seen.nilSlot 2 4 (encL ([] : List Wr)) rfl rfl rfl fun t v h => ?_) (loop_rule (fun k : Nat => k ≤ l.length) (fun k => FTw l (l.take k) c k) (fun k => STw l (l.take k)) (fun k => l.length - k) (fun k hk K hK => tw_round hβ hl hok K hK k hk) 0 (Nat.zero_le _)), ?_⟩
  · rcases mkFT_get _ _ t v h with h1 | h1
    · simp at h1
      rcases h1 with ⟨rfl, rfl⟩ | ⟨rfl, rfl⟩ | ⟨rfl, rfl⟩ | ⟨rfl, rfl⟩
      · exact .inl ⟨rfl, rfl⟩
      · exact .inr rfl
      · exact .inr rfl
      · exact .inr rfl
    · cases h1
  · exact ⟨[1], .inr (.inl ⟨1, 0, 0, l.length, encL l, 1, rfl, rfl, fun _ => rfl, rfl, Nat.le_refl _, by omega, fun i hi j hj => by rw [Nat.zero_add]⟩), by simp⟩
end Go.Proofs.Ytpejhdbllphdaaa.Ev
