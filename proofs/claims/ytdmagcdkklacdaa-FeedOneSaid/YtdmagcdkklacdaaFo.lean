/-
  FeedOne: what has to hold holds.
-/
import Derived.Test.YtdmagcdkklacdaaFoV
set_option linter.unusedVariables false
set_option linter.unusedSimpArgs false
set_option maxRecDepth 100000
namespace Go.Proofs.Ytdmagcdkklacdaa.Ev
open Go Go.Proofs Go.RowKit

theorem take_take_drop {α : Type} (l : List α) (k n : Nat) : l.take k ++ (l.drop k).take n = l.take (k + n) := by rw [List.take_add]
theorem lenU_frame {l : List U8} (h : l.length ≤ 200) : lenU (frameU l) = l.length := by
  have := frame_lenU (m := []) h
  rw [List.append_nil] at this; exact this
theorem fd_part {l : List U8} (h : l.length ≤ 200) {j : Nat} (hj : j < (frameU l).length) : fd ((frameU l).take j) = ([], (frameU l).take j, 11) := by
  have hF := frameU_len l
  have hl : ((frameU l).take j).length = j := by rw [List.length_take]; omega
  have ht : tkE ((frameU l).take j) = 11 := by
    unfold tkE
    rw [hl]
    by_cases h2 : j < 2
    · rw [if_pos h2]
    · rw [if_neg h2]
      have e := lenU_app (l := (frameU l).take j) (m := (frameU l).drop j) (by rw [hl]; omega)
      rw [List.take_append_drop, lenU_frame h] at e
      rw [← e, if_neg (by omega), if_pos (by omega)]
  rw [fd_stop (by omega), ht]
theorem fd_whole {l : List U8} (h : l.length ≤ 200) : fd (frameU l) = ([⟨l, 0⟩], [], 11) := by
  have := fd_frame (m := []) h
  rw [List.append_nil, fd_nil] at this; exact this
/-- what is left after so many bytes of a frame -/
def XO (F : List U8) (k : Nat) : List U8 := if k < F.length then F.take k else []
theorem fo2_round {l : List Ld} {c : Nat} {i : Nat} {a : Ld} {β : Bs} (hβ : β.X.length = 1) (hi : i < l.length) (ha : l.getD i Enc.dflt = a) (hao : a.l.all (okA U8) = true) (hal : a.l.length ≤ 40) (K : Kt)
    (hK : ∀ cx, cx ≤ 1 → K (.exit 2) (FO1 l c i) (SO1 l [] cx)) (s : Nat × Nat) (hs : s.1 ≤ (frameU a.l).length ∧ s.2 ≤ 1) :
    J Try.prog β (loopOf Try.prog 6 2) (FO2 l c i (frameU a.l) s.1) (SO2 l (frameU a.l) (XO (frameU a.l) s.1) s.2) (Nn β (fun s : Nat × Nat => s.1 ≤ (frameU a.l).length ∧ s.2 ≤ 1) (fun s => (frameU a.l).length - s.1) (fun s : Nat × Nat => FO2 l c i (frameU a.l) s.1) (fun s : Nat × Nat => SO2 l (frameU a.l) (XO (frameU a.l) s.1) s.2) s K) := by
  obtain ⟨k, cx⟩ := s
  obtain ⟨hk, hcx⟩ := hs
  have hk : k ≤ (frameU a.l).length := hk
  have hcx : cx ≤ 1 := hcx
  refine roundJ_ok (E := 1) (lvs := lvsO) (un := fun _ => 0) (fuel := 100) (n := 20) (ex := fun _ _ => False) follows toldG_ok hβ (lv := lvO2) ?_
  rw [vc_fo2_r]
  have hFl := frameU_len a.l
  have hFo := frameU_ok hao
  have hpart := fun j hj => fd_part (l := a.l) (by omega) (j := j) hj
  have hwhole := fd_whole (l := a.l) (by omega)
  generalize hF : frameU a.l = F at *
  by_cases hkn : k < F.length
  · have hX : XO F k = F.take k := by unfold XO; rw [if_pos hkn]
    have hXM : F.take k ++ (F.drop k).take 1 = F.take (k + 1) := take_take_drop F k 1
    have c1 : decide ((k : Int) < Int.ofNat F.length) = true := by simpa using hkn
    have hw : IntKind.wrap .i64 ((k : Int) + 1) = ((k + 1 : Nat) : Int) := w64 (by omega) (by omega)
    have hw2 : IntKind.wrap .i64 (Int.ofNat F.length - 1) = ((F.length - 1 : Nat) : Int) := by rw [Int.ofNat_eq_natCast, w64 (by omega) (by omega)]; omega
    have t1 : Int.toNat ((k + 1 : Nat) : Int) = k + 1 := Int.toNat_natCast _
    have t2 : Int.toNat (k : Int) = k := Int.toNat_natCast k
    have d1 : decide ((0 : Int) ≤ ((k + 1 : Nat) : Int)) = true := decide_eq_true (by omega)
    have d2 : decide ((0 : Int) ≤ (k : Int)) = true := decide_eq_true (by omega)
    have b1 : Nat.ble (k + 1) F.length = true := Nat.ble_eq_true_of_le hkn
    have b2 : Nat.ble k (k + 1) = true := Nat.ble_eq_true_of_le (by omega)
    have b0 : Nat.ble 0 k = true := by simp
    have s1 : k + 1 - k = 1 := by omega
    have z1 : Nat.beq F.length 0 = false := beq_false (by omega)
    have hXo := take_all hFo k
    have hXl : (F.take k).length = k := by rw [List.length_take]; omega
    have lX : ∀ n x, n = k → listT U8 (Td.fr 1 n x (encL (F.take k))) = F.take k := fun n x hn => by subst hn; have := lU (F.take n) x; rw [hXl] at this; exact this
    have lM : ∀ x, listT U8 (Td.fr 1 1 x fun i => encL F (k + i)) = (F.drop k).take 1 := fun x => listU_mid F x (by omega)
    have f1 : okFd [Ta.agg [Td.fr 1 k cx (encL (F.take k)), Td.sc (Value.bool false)], Ta.cell (Td.fr 1 1 0 fun i => encL F (k + i))] = true := by
      have o1 : okT U8 (Td.fr 1 k cx (encL (F.take k))) = true := by have := okT_enc (c := cx) hXo (by omega) hcx; rw [hXl] at this; exact this
      refine okFd_of o1 (by rw [lX k cx rfl]; exact hXo) (okT_mid hFo (by omega) (by omega) (by omega)) (by rw [lM]; exact mid_all hFo _ _) ?_
      rw [lX k cx rfl, lM, hXl, mid_len F (by omega)]; omega
    have hnext : ∀ cy, cy ≤ 1 → ∀ f st, Seen β f st (FO2 l c i F ((k + 1 : Nat) : Int)) (SO2 l F (XO F (k + 1)) cy) → Nn β (fun s : Nat × Nat => s.1 ≤ F.length ∧ s.2 ≤ 1) (fun s => F.length - s.1) (fun s : Nat × Nat => FO2 l c i F s.1) (fun s : Nat × Nat => SO2 l F (XO F s.1) s.2) (k, cx) K .normal f st := fun cy hcy f st hsn =>
      Nn.next (I := fun s : Nat × Nat => s.1 ≤ F.length ∧ s.2 ≤ 1) (m := fun s : Nat × Nat => F.length - s.1) (F := fun s : Nat × Nat => FO2 l c i F s.1) (S := fun s : Nat × Nat => SO2 l F (XO F s.1) s.2) (p := (k, cx)) (k + 1, cy) ⟨hkn, hcy⟩ (by show F.length - (k + 1) < F.length - k; omega) hsn
    rw [hX]
    by_cases hlast : k + 1 < F.length
    · have e := hpart (k + 1) hlast
      have e2 : (fd (F.take k ++ (F.drop k).take 1)).2.2 = 11 := by rw [hXM, e]
      have q1 : fdQ false (F.take k) ((F.drop k).take 1) = false := fdQ_none e2
      have q2 : fdB false (F.take k) ((F.drop k).take 1) = F.take (k + 1) := by rw [fdB_none e2, hXM, e]
      have q3 : fdL false (F.take k) ((F.drop k).take 1) = [] := by show (fd (F.take k ++ (F.drop k).take 1)).1 = []; rw [hXM, e]
      have hl1 : (F.take (k + 1)).length = k + 1 := by rw [List.length_take]; omega
      have l1 : ((k : Int) == ((F.length - 1 : Nat) : Int)) = false := by simp; omega
      have l2 : (Int.ofNat (k + 1) != ((k + 1 : Nat) : Int)) = false := by simp
      have m1 : ((Int.ofNat 0 : Int) == 1) = false := rfl
      have m2 : decide ((Int.ofNat 0 : Int) > 1) = false := rfl
      have m3 : (!(false == false)) = false := rfl
      have m4 : (!false) = true := rfl
      simp only [c1, hw, hw2, t1, t2, d1, d2, b0, b1, b2, s1, z1, br_t, br_f, need_t, Nat.zero_add, Bool.true_and, bleS, hXl, lX k _ rfl, lM, f1, cond_false, q1, q2, q3, List.length_nil, m1, m2, m3, m4, l1, l2, hl1]
      refine hnext _ (fdC_le (q := false) (X := F.take k) (M := (F.drop k).take 1) hcx) _ _ ?_
      have hX2 : XO F (k + 1) = F.take (k + 1) := by unfold XO; rw [if_pos hlast]
      have hr : rowO .mine (F.take (k + 1)) = .row .mine 1 0 (k + 1) (encL (F.take (k + 1))) := by unfold rowO; rw [hl1]; rfl
      unfold SO2
      rw [hX2, hl1, hr]
      exact Seen.refl _ _ _
    · have hkl : k + 1 = F.length := by omega
      have hFt : F.take (k + 1) = F := List.take_of_length_le (by omega)
      have e2 : (fd (F.take k ++ (F.drop k).take 1)).2.2 = 11 := by rw [hXM, hFt, hwhole]
      have q1 : fdQ false (F.take k) ((F.drop k).take 1) = false := fdQ_none e2
      have q2 : fdB false (F.take k) ((F.drop k).take 1) = [] := by rw [fdB_none e2, hXM, hFt, hwhole]
      have q3 : fdL false (F.take k) ((F.drop k).take 1) = [⟨a.l, 0⟩] := by show (fd (F.take k ++ (F.drop k).take 1)).1 = _; rw [hXM, hFt, hwhole]
      have l1 : ((k : Int) == ((F.length - 1 : Nat) : Int)) = true := by simp; omega
      have m1 : ((Int.ofNat 1 : Int) == 1) = true := rfl
      have m2 : decide ((Int.ofNat 1 : Int) > 1) = false := rfl
      have m3 : (!(true == true)) = false := rfl
      have m4 : (!true) = false := rfl
      have m5 : ([⟨a.l, 0⟩] : List Ld).length = 1 := rfl
      have m6 : (([⟨a.l, 0⟩] : List Ld).getD 0 Enc.dflt).l = a.l := rfl
      have m7 : Nat.blt 0 1 = true := rfl
      have m8 : (Int.ofNat ([] : List U8).length != 0) = false := rfl
      have i1 : decide ((0 : Int) ≤ (i : Int)) = true := decide_eq_true (by omega)
      have i2 : Int.toNat (i : Int) = i := Int.toNat_natCast i
      have i3 : Nat.blt i l.length = true := by simpa using hi
      have i4 : Nat.ble 0 i = true := by simp
      have B1 : (bytesU a.l == bytesU a.l) = true := by rw [bytesU_beq hao hao]; exact sameU_self _
      simp only [c1, hw, hw2, t1, t2, d1, d2, b0, b1, b2, s1, z1, br_t, br_f, need_t, Nat.zero_add, Bool.true_and, bleS, hXl, lX k _ rfl, lM, f1, cond_false, q1, q2, q3, m1, m2, m3, m4, m5, m6, m7, m8, l1, i1, i2, i3, i4, ha, allB_all, bytes_all, B1]
      refine hnext _ (fdC_le (q := false) (X := F.take k) (M := (F.drop k).take 1) hcx) _ _ ?_
      have hX2 : XO F (k + 1) = [] := by unfold XO; rw [if_neg (by omega)]
      unfold SO2
      rw [hX2]
      exact Seen.refl _ _ _
  · have c1 : decide ((k : Int) < Int.ofNat F.length) = false := by simpa using hkn
    have hX : XO F k = [] := by unfold XO; rw [if_neg hkn]
    rw [hX]
    simp only [c1, br_f]
    exact Nn.exit (Seen.refl _ _ _) (hK cx hcx)
theorem sub_one {α : Type} (l : List α) {i : Nat} (h : i < l.length) (d : α) : (l.drop i).take 1 = [l.getD i d] := by
  have := mid_get l (k := i) (n := 1) (i := 0) (by omega) (by omega) d
  apply List.ext_getElem?
  intro j
  cases j with
  | zero => rw [this]; rfl
  | succ j => rw [List.getElem?_eq_none (by simp; omega), List.getElem?_eq_none (by simp)]
theorem fo1_round {l : List Ld} {c : Nat} {β : Bs} (hβ : β.X.length = 1) (hc : c ≤ 1) (hn6 : l.length ≤ 4) (hl : ∀ a ∈ l, a.l.all (okA U8) = true ∧ a.c ≤ 1) (K : Kt)
    (hK : ∀ cx, cx ≤ 1 → K (.exit 0) (FO1 l c l.length) (SO1 l [] cx)) (hK2 : K .ret (FO1r true) (SO1r l)) (s : Nat × Nat) (hs : s.1 ≤ l.length ∧ s.2 ≤ 1) :
    J Try.prog β (loopOf Try.prog 6 0) (FO1 l c s.1) (SO1 l [] s.2) (Nn β (fun s : Nat × Nat => s.1 ≤ l.length ∧ s.2 ≤ 1) (fun s => l.length - s.1) (fun s : Nat × Nat => FO1 l c s.1) (fun s : Nat × Nat => SO1 l [] s.2) s K) := by
  obtain ⟨i, cx⟩ := s
  obtain ⟨hk, hcx⟩ := hs
  have hk : i ≤ l.length := hk
  have hcx : cx ≤ 1 := hcx
  refine roundJ_ok (E := 1) (lvs := lvsO) (un := fun _ => 0) (fuel := 100) (n := 20) (ex := exO l c i) follows toldG_ok hβ (lv := lvO1) ?_
  rw [vc_fo1_r]
  by_cases hkn : i < l.length
  · have c1 : decide ((i : Int) < Int.ofNat l.length) = true := by simpa using hkn
    have i1 : decide ((0 : Int) ≤ (i : Int)) = true := by simp
    have i2 : Int.toNat (i : Int) = i := Int.toNat_natCast i
    have i3 : Nat.blt i l.length = true := by simpa using hkn
    have i4 : Nat.ble 0 i = true := by simp
    have hw : IntKind.wrap .i64 ((i : Int) + 1) = ((i + 1 : Nat) : Int) := w64 (by omega) (by omega)
    simp only [c1, i1, i2, i3, i4, Nat.zero_add, Bool.true_and, need_t, br_t, hw]
    refine br_of (fun _ => Nn.ret (Seen.refl _ _ _) hK2) (fun q1 => ?_)
    have t1 : Int.toNat ((i + 1 : Nat) : Int) = i + 1 := Int.toNat_natCast _
    have d1 : decide ((0 : Int) ≤ ((i + 1 : Nat) : Int)) = true := decide_eq_true (by omega)
    have b1 : Nat.ble (i + 1) l.length = true := Nat.ble_eq_true_of_le hkn
    have b2 : Nat.ble i (i + 1) = true := Nat.ble_eq_true_of_le (by omega)
    have s1 : i + 1 - i = 1 := by omega
    have z1 : Nat.beq l.length 0 = false := beq_false (by omega)
    generalize ha : l.getD i Enc.dflt = a at *
    have hmem : a ∈ l := by rw [← ha]; simp [List.getD, hkn]
    have hao := (hl a hmem).1
    have hac := (hl a hmem).2
    have hal : a.l.length ≤ 40 := by simp at q1; omega
    have lM : ∀ x, listT Ld (Td.fr 1 1 x fun j => encL l (i + j)) = [a] := fun x => by
      have : listT Ld (Td.fr 1 1 x fun j => encL l (i + j)) = (l.drop i).take 1 := decL_mid l (by omega)
      rw [this, sub_one l hkn Enc.dflt, ha]
    have hoka : okA Ld a = true := okA_ld hao (by omega) hac
    have hTd : (Td.fr 1 1 0 fun j => encL l (i + j)) = (Td.fr 1 1 0 fun j => encL l (i + j)) := rfl
    have o1 : ok1 Ld (fun l x => List.all l (okA Ld) && Nat.ble (List.length l) 1000) [Ta.cell (Td.fr 1 1 0 fun j => encL l (i + j))] = true := by
      show (okT Ld _ && ((listT Ld _).all (okA Ld) && Nat.ble (listT Ld _).length 1000)) = true
      rw [lM]
      have t2 : okT Ld (Td.fr 1 1 0 fun j => encL l (i + j)) = true := by
        simp only [okT, Bool.or_eq_true, Bool.and_eq_true]
        refine .inl ⟨⟨⟨Nat.beq_refl _, okL_of fun j hj => ?_⟩, rfl⟩, rfl⟩
        have : j = 0 := by omega
        subst this
        have h0 : okA Ld (l.getD (i + 0) Enc.dflt) = true := by rw [Nat.add_zero, ha]; exact hoka
        exact h0
      rw [t2]
      show (true && ((okA Ld a && true) && true)) = true
      rw [hoka]; rfl
    have hF : loadsN [a] 1 = frameU a.l := by
      show [] ++ putL a.l = _
      unfold putL; rw [if_neg (by omega)]; rfl
    have m5 : ([a] : List Ld).length = 1 := rfl
    have ex1 : ∀ cx, cx ≤ 1 → Nn β (fun s : Nat × Nat => s.1 ≤ l.length ∧ s.2 ≤ 1) (fun s => l.length - s.1) (fun s : Nat × Nat => FO1 l c s.1) (fun s : Nat × Nat => SO1 l [] s.2) (i, cx) K .normal (FO1 l c ((i + 1 : Nat) : Int)) (SO1 l [] cx) := fun cx hcx =>
      Nn.next (I := fun s : Nat × Nat => s.1 ≤ l.length ∧ s.2 ≤ 1) (m := fun s : Nat × Nat => l.length - s.1) (F := fun s : Nat × Nat => FO1 l c s.1) (S := fun s : Nat × Nat => SO1 l [] s.2) (p := (i, cx)) (i + 1, cx) ⟨hkn, hcx⟩ (by show l.length - (i + 1) < l.length - i; omega) (Seen.refl _ _ _)
    simp only [t1, d1, b1, b2, s1, z1, cond_false, need_t, lM, o1, m5, hF]
    refine ⟨?_, fun cy hcy => ?_⟩
    · have h0 : XO (frameU a.l) 0 = [] := by unfold XO; rw [if_pos (by rw [frameU_len]; omega)]; rfl
      have := loop_rule (P := Try.prog) (β := β) (ex := exO l c i) (b := 2) (c := loopOf Try.prog 6 2) (fun s : Nat × Nat => s.1 ≤ (frameU a.l).length ∧ s.2 ≤ 1) (fun s : Nat × Nat => FO2 l c i (frameU a.l) s.1) (fun s : Nat × Nat => SO2 l (frameU a.l) (XO (frameU a.l) s.1) s.2) (fun s => (frameU a.l).length - s.1) (fun s hs K hK => fo2_round hβ hkn ha hao hal K hK s hs) (0, cx) ⟨Nat.zero_le _, hcx⟩
      simp only [h0] at this
      exact this
    · exact Nn.next (I := fun s : Nat × Nat => s.1 ≤ l.length ∧ s.2 ≤ 1) (m := fun s : Nat × Nat => l.length - s.1) (F := fun s : Nat × Nat => FO1 l c s.1) (S := fun s : Nat × Nat => SO1 l [] s.2) (p := (i, cx)) (i + 1, cy) ⟨hkn, hcy⟩ (by show l.length - (i + 1) < l.length - i; omega) (Seen.refl _ _ _)
  · have c1 : decide ((i : Int) < Int.ofNat l.length) = false := by simpa using hkn
    have hkn' : i = l.length := by omega
    simp only [c1, br_f]
    subst hkn'
    exact Nn.exit (Seen.refl _ _ _) (hK cx hcx)
theorem one_law {l : List Ld} {c : Nat} (hc : c ≤ 1) (hl : ∀ a ∈ l, a.l.all (okA U8) = true ∧ a.c ≤ 1) (w : World) (args' : Array Value) (ha : PW (TR w (There w)) [tdL l c] args'.toList) :
    Calls Try.prog 6 args' w fun e w' => e = .returned (.bool true) ∧ Below w.heap.size w w' := by
  refine law_top (C := toldG) (fuel := 100) (n := 20) (un := fun _ => 0) (lvs := lvsO) (ex := exO l c 0) follows toldG_ok (fun β hβ => ?_) w args' ha
  show lawE _ _ _ _ _ _ (cnOf 1 lvsO) _ _ [.slice (some ⟨0, 0, some 0⟩) l.length c] (mkS [some (rowO .still l)]) trueE
  rw [vc_fo]
  refine br_of (fun _ => trivial) (fun q1 => ⟨?_, fun _ _ => trivial, trivial⟩)
  have hl4 : l.length ≤ 4 := by simp at q1; omega
  refine LoopJ.seen ?_ (loop_rule (fun s : Nat × Nat => s.1 ≤ l.length ∧ s.2 ≤ 1) (fun s : Nat × Nat => FO1 l c s.1) (fun s : Nat × Nat => SO1 l [] s.2) (fun s => l.length - s.1) (fun s hs K hK => fo1_round hβ hc hl4 hl K hK.1 hK.2 s hs) (0, 1) ⟨Nat.zero_le _, by show 1 ≤ 1; omega⟩)
  refine Seen.trans (Seen.void 1 (encL ([] : List U8))) (Seen.objs rfl fun q o2 h => ?_)
  match q, h with
  | 0, h => cases h; exact ⟨_, rfl, rfl, fun _ _ _ h => h⟩
  | 1, h => cases h; exact ⟨_, rfl, rfl, fun _ _ _ h => ObjR.nilCell (j := 0) (k := 2) rfl h⟩
  | 2, h => cases h; exact ⟨_, rfl, rfl, fun _ _ _ h => h⟩
end Go.Proofs.Ytdmagcdkklacdaa.Ev
