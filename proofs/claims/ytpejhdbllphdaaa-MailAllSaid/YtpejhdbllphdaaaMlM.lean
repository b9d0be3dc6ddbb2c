/-
  SameMail: writes are the same as they are. And all that is told of mail.
-/
import Derived.Test.YtpejhdbllphdaaaMlMV
import Derived.Test.YtpejhdbllphdaaaMlRd
set_option linter.unusedVariables false
set_option linter.unusedSimpArgs false
namespace Go.Proofs.Ytpejhdbllphdaaa.Ev
open Go Go.Proofs Go.RowKit

theorem sameVl_self (a : Vl) : sameVl a a = true := by simp [sameVl, same_self]
theorem sameVs_self (l : List Vl) : sameVs l l = true := by simp [sameVs, sameVl_self]
theorem sameA_self (l : List Int) : sameA l l = true := by simp [sameA]
theorem sameW_self (a : Wr) : sameW a a = true := by simp [sameW, sameVs_self, sameA_self]
theorem sameMl_self (l : List Wr) : sameMl l l = true := by simp [sameMl, sameW_self]
theorem ok2_vl {l m : List Vl} {c d : Nat} (h1 : l.length ≤ 1000000) (h2 : m.length ≤ 1000000) (h3 : c ≤ 1) (h4 : d ≤ 1) : ok2 Vl Vl (fun _ _ _ _ => true) [Ta.cell (Td.fr 3 l.length c (encL l)), Ta.cell (Td.fr 3 m.length d (encL m))] = true := by
  show (okT Vl (tdL l c) && okT Vl (tdL m d) && true) = true
  rw [okT_tdL (allV _) h1 h3, okT_tdL (allV _) h2 h4]; rfl
theorem encZ {α : Type} [Enc α] (l : List α) : (fun i => encL l (0 + i)) = encL l := by funext i; rw [Nat.zero_add]
theorem mi_loop {l : List Wr} {c d i : Nat} {β : Bs} (hβ : β.X.length = 2) (hi : i < l.length) (hw6 : (l.getD i Enc.dflt).a.length ≤ 1000000) : LoopJ Try.prog β (exMi l l c d i) 2 (loopOf Try.prog 11 2) (FMi l l c d i (0 : Nat)) (SM l l) := by
  refine loop_rule (fun k : Nat => k ≤ (l.getD i Enc.dflt).a.length) (fun k => FMi l l c d i k) (fun k => SM l l) (fun k => (l.getD i Enc.dflt).a.length - k) (fun k hk K hK => ?_) 0 (Nat.zero_le _)
  have hK : K (.exit 2) (FMo l l c d i) (SM l l) := hK.1 (sameA_self _)
  show J _ β _ _ _ (Nn β (fun k : Nat => k ≤ (l.getD i Enc.dflt).a.length) (fun k => (l.getD i Enc.dflt).a.length - k) (fun k : Nat => FMi l l c d i k) (fun k => SM l l) k K)
  refine roundJ_ok (E := 2) (lvs := lvM) (un := fun _ => 0) (fuel := 100) (n := 20) (ex := fun _ _ => False) follows toldT_ok hβ (lv := lvMi) ?_
  rw [vc_mi_r]
  have i1 : decide ((0 : Int) ≤ (i : Int)) = true := by simp
  have i2 : Int.toNat (i : Int) = i := Int.toNat_natCast i
  have i3 : Nat.blt i l.length = true := by simpa using hi
  have i4 : Nat.ble 0 i = true := by simp
  have c2 : decide ((0 : Int) ≤ (k : Int)) = true := by simp
  have e0 : Int.toNat (k : Int) = k := Int.toNat_natCast k
  have c5 : Nat.ble 0 k = true := by simp
  simp only [i1, i2, i3, i4, c2, e0, c5, Nat.zero_add, Bool.true_and, need_t, bne_self_eq_false, br_f]
  by_cases hkn : k < (l.getD i Enc.dflt).a.length
  · have c1 : decide ((k : Int) < Int.ofNat (l.getD i Enc.dflt).a.length) = true := by simpa using hkn
    have c3 : Nat.blt k (l.getD i Enc.dflt).a.length = true := by simpa using hkn
    have hw : IntKind.wrap .i64 ((k : Int) + 1) = ((k + 1 : Nat) : Int) := w64 (by omega) (by omega)
    simp only [c1, c3, br_t, need_t, hw]
    exact Nn.next (I := fun k : Nat => k ≤ (l.getD i Enc.dflt).a.length) (m := fun k => (l.getD i Enc.dflt).a.length - k) (F := fun k : Nat => FMi l l c d i k) (S := fun k => SM l l) (p := k) (k + 1) hkn (by omega) (Seen.refl _ _ _)
  · have c1 : decide ((k : Int) < Int.ofNat (l.getD i Enc.dflt).a.length) = false := by simpa using hkn
    simp only [c1, br_f]
    exact Nn.exit (Seen.refl _ _ _) hK
theorem mo_loop {l : List Wr} {c d : Nat} {β : Bs} (hβ : β.X.length = 2) (hn6 : l.length ≤ 1000000) (hok : l.all (okA Wr) = true) : LoopJ Try.prog β (exMo l l c d) 0 (loopOf Try.prog 11 0) (FMo l l c d (0 : Nat)) (SM l l) := by
  refine loop_rule (fun k : Nat => k ≤ l.length) (fun k => FMo l l c d k) (fun k => SM l l) (fun k => l.length - k) (fun k hk K hK => ?_) 0 (Nat.zero_le _)
  have hK : K (.exit 0) (FMo l l c d l.length) (SM l l) := hK.1 (sameMl_self l)
  show J _ β _ _ _ (Nn β (fun k : Nat => k ≤ l.length) (fun k => l.length - k) (fun k : Nat => FMo l l c d k) (fun k => SM l l) k K)
  refine roundJ_ok (E := 2) (lvs := lvM) (un := fun _ => 0) (fuel := 100) (n := 20) (ex := exMi l l c d k) follows toldT_ok hβ (lv := lvMo) ?_
  rw [vc_mo_r]
  by_cases hkn : k < l.length
  · have c1 : decide ((k : Int) < Int.ofNat l.length) = true := by simpa using hkn
    have i1 : decide ((0 : Int) ≤ (k : Int)) = true := by simp
    have i2 : Int.toNat (k : Int) = k := Int.toNat_natCast k
    have i3 : Nat.blt k l.length = true := by simpa using hkn
    have i4 : Nat.ble 0 k = true := by simp
    have hw : IntKind.wrap .i64 ((k : Int) + 1) = ((k + 1 : Nat) : Int) := w64 (by omega) (by omega)
    obtain ⟨w1, w2, w3, w4⟩ := okA_wr_inv (all_at hok hkn)
    have hs : ∀ (l : List Vl) c, listT Vl (Td.fr 3 l.length c (encL l)) = l := fun l c => listT_tdL l c
    simp only [c1, i1, i2, i3, i4, Nat.zero_add, Bool.true_and, need_t, br_t, bne_self_eq_false, br_f, bleS, hw]
    have e1 : (fun i => encL (l.getD k Enc.dflt).v i) = encL (l.getD k Enc.dflt).v := rfl
    simp only [e1, ok2_vl w4 w4 w3 w3, hs, need_t, sameVs_self, Bool.not_true, br_f]
    exact ⟨mi_loop hβ hkn w2, fun _ => Nn.next (I := fun k : Nat => k ≤ l.length) (m := fun k => l.length - k) (F := fun k : Nat => FMo l l c d k) (S := fun k => SM l l) (p := k) (k + 1) hkn (by omega) (Seen.refl _ _ _), fun h => by rw [sameA_self] at h; cases h⟩
  · have c1 : decide ((k : Int) < Int.ofNat l.length) = false := by simpa using hkn
    have hkn' : k = l.length := by omega
    simp only [c1, br_f]
    subst hkn'
    exact Nn.exit (Seen.refl _ _ _) hK
noncomputable def eqL (l m : List Wr) : Bool := @decide (l = m) (Classical.propDecidable _)
theorem eqL_self (l : List Wr) : eqL l l = true := by unfold eqL; exact @decide_eq_true _ (Classical.propDecidable _) rfl
theorem sameMail_told : ToldW Try.prog 11 (ok2 Wr Wr fun l _ m _ => l.all (okA Wr) && eqL l m) (ans2 Wr Wr fun _ _ _ _ => bAns true) := by
  refine told2 follows fun l c m d hl hc hm hd hok => ?_
  rw [Bool.and_eq_true] at hok
  obtain ⟨hok, he⟩ := hok
  have he : l = m := @of_decide_eq_true _ (Classical.propDecidable _) he
  subst he
  refine ⟨toldT, 100, 20, fun _ => 0, lvM, exMo l l c d, toldT_ok, fun β hβ => ?_⟩
  show lawE _ _ _ _ _ _ (cnOf 2 lvM) _ _ _ _ _
  rw [bAns_any, vc_sm l l c d β fun r => ansE (bAns true) r st0]
  simp only [bne_self_eq_false, br_f]
  exact ⟨mo_loop hβ hl hok, fun _ => bAns_ok _ _, fun h => by rw [sameMl_self] at h; cases h⟩
noncomputable def toldM : Told := ((toldT.tree 8 (ok2 Wr Vl fun l _ _ _ => l.all (okA Wr)) (ans2 Wr Vl fun l _ m d => .ret (.cell (ownL (drL l m l.length) d)))).tree 13 (ok2 Wr Vl fun l _ _ _ => l.all (okA Wr)) (ans2 Wr Vl fun l _ m d => .ret (.cell (ownL (drL l m l.length) 0)))).tree 11 (ok2 Wr Wr fun l _ m _ => l.all (okA Wr) && eqL l m) (ans2 Wr Wr fun _ _ _ _ => bAns true)
theorem toldM_ok : ToldS Try.prog toldM := Told.tree_ok (Told.tree_ok (Told.tree_ok toldT_ok drain_told) rdrain_told) sameMail_told
end Go.Proofs.Ytpejhdbllphdaaa.Ev
