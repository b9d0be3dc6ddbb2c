/-
  MailParts: what has to hold holds.
-/
import Derived.Test.YtpejhdbllphdaaaMlPV
import Derived.Test.YtpejhdbllphdaaaTop
set_option linter.unusedVariables false
set_option linter.unusedSimpArgs false
namespace Go.Proofs.Ytpejhdbllphdaaa.Ev
open Go Go.Proofs Go.RowKit

theorem drL_take (l : List Wr) (img : List Vl) {k : Nat} (h : k ≤ l.length) : ∀ j, j ≤ k → drL (l.take k) img j = drL l img j := by
  intro j
  induction j with
  | zero => intro _; rfl
  | succ j ih =>
    intro hj
    show drW ((l.take k).getD j Enc.dflt) (drL (l.take k) img j) ((l.take k).getD j Enc.dflt).a.length = _
    rw [ih (by omega)]
    have : (l.take k).getD j Enc.dflt = l.getD j Enc.dflt := by simp [List.getD, List.getElem?_take, show j < k by omega]
    rw [this]; rfl
theorem drL_drop (l : List Wr) (img : List Vl) (k : Nat) : ∀ j, drL (l.drop k) (drL l img k) j = drL l img (k + j) := by
  intro j
  induction j with
  | zero => rfl
  | succ j ih =>
    show drW ((l.drop k).getD j Enc.dflt) (drL (l.drop k) (drL l img k) j) ((l.drop k).getD j Enc.dflt).a.length = _
    rw [ih]
    have : (l.drop k).getD j Enc.dflt = l.getD (k + j) Enc.dflt := by simp [List.getD, List.getElem?_drop]
    rw [this]; rfl
theorem drL_parts (l : List Wr) (img : List Vl) {k : Nat} (h : k ≤ l.length) : drL (l.drop k) (drL (l.take k) img k) (l.length - k) = drL l img l.length := by
  rw [drL_take l img h k (Nat.le_refl _), drL_drop, show k + (l.length - k) = l.length by omega]
theorem mp_loop {l : List Wr} {img : List Vl} {c d : Nat} {u : Int} {β : Bs} (hβ : β.X.length = 2) (hn6 : l.length ≤ 6) : LoopJ Try.prog β (exP l img c d u) 0 (loopOf Try.prog 6 0) (FP l img c d u (0 : Nat)) (SP l img) := by
  refine loop_rule (fun k : Nat => k ≤ l.length ∧ ∀ j, j < k → fitW (l.getD j Enc.dflt) = true) (fun k => FP l img c d u k) (fun k => SP l img) (fun k => l.length - k) (fun k hk K hK => ?_) 0 ⟨Nat.zero_le _, fun j hj => by omega⟩
  show J _ β _ _ _ (Nn β (fun k : Nat => k ≤ l.length ∧ ∀ j, j < k → fitW (l.getD j Enc.dflt) = true) (fun k => l.length - k) (fun k : Nat => FP l img c d u k) (fun k => SP l img) k K)
  obtain ⟨hk, hfit⟩ := hk
  refine roundJ_ok (E := 2) (lvs := fun _ => slP) (un := fun _ => 0) (fuel := 100) (n := 20) (ex := fun _ _ => False) follows toldM_ok hβ (lv := lvP) ?_
  rw [vc_mp_r]
  by_cases hkn : k < l.length
  · have c1 : decide ((k : Int) < Int.ofNat l.length) = true := by simpa using hkn
    have i1 : decide ((0 : Int) ≤ (k : Int)) = true := by simp
    have i2 : Int.toNat (k : Int) = k := Int.toNat_natCast k
    have i3 : Nat.blt k l.length = true := by simpa using hkn
    have i4 : Nat.ble 0 k = true := by simp
    have hw : IntKind.wrap .i64 ((k : Int) + 1) = ((k + 1 : Nat) : Int) := w64 (by omega) (by omega)
    simp only [c1, i1, i2, i3, i4, Nat.zero_add, Bool.true_and, need_t, br_t, hw]
    refine br_of (fun _ => Nn.ret (Seen.refl _ _ _) hK.2) (fun q1 => br_of (fun _ => Nn.ret (Seen.refl _ _ _) hK.2) (fun q2 => ?_))
    refine Nn.next (I := fun k : Nat => k ≤ l.length ∧ ∀ j, j < k → fitW (l.getD j Enc.dflt) = true) (m := fun k => l.length - k) (F := fun k : Nat => FP l img c d u k) (S := fun k => SP l img) (p := k) (k + 1) ⟨hkn, fun j hj => ?_⟩ (by omega) (Seen.refl _ _ _)
    by_cases hjk : j < k
    · exact hfit j hjk
    · have : j = k := by omega
      subst this
      unfold fitW
      rw [q1, q2]; rfl
  · have c1 : decide ((k : Int) < Int.ofNat l.length) = false := by simpa using hkn
    have hkn' : k = l.length := by omega
    simp only [c1, br_f]
    subst hkn'
    refine Nn.exit (Seen.refl _ _ _) (hK.1 ?_)
    rw [List.all_eq_true]
    intro w hw
    obtain ⟨i, hi, rfl⟩ := List.mem_iff_getElem.1 hw
    have := hfit i hi
    simpa [List.getD, hi] using this
theorem fitW_ok {w : Wr} (h : fitW w = true) (h1 : w.ca ≤ 1) (h2 : w.cv ≤ 1) : okA Wr w = true := by
  simp [fitW] at h
  exact okA_wr h1 (by omega) h2 (by omega)
theorem parts_law {l : List Wr} {img : List Vl} {c d : Nat} {u : Int} (hc : c ≤ 1) (hd : d ≤ 1) (hl : ∀ w ∈ l, w.ca ≤ 1 ∧ w.cv ≤ 1) (hu : 0 ≤ u ∧ u < 256) (w : World) (args' : Array Value) (ha : PW (TR w (There w)) [tdL l c, tdL img d, .sc (.int .u8 u)] args'.toList) :
    Calls Try.prog 6 args' w fun e w' => e = .returned (.bool true) ∧ Below w.heap.size w w' := by
  refine law_top (C := toldM) (fuel := 100) (n := 20) (un := fun _ => 0) (lvs := fun _ => slP) (ex := exP l img c d u) follows toldM_ok (fun β hβ => ?_) w args' ha
  show lawE _ _ _ _ _ _ (cnOf 2 fun _ => slP) _ _ [.slice (some ⟨0, 0, some 0⟩) l.length c, .slice (some ⟨1, 0, some 0⟩) img.length d, .int .u8 u] (mkS [some (rowO .still l), some (rowO .still img)]) trueE
  rw [vc_mp]
  refine br_of (fun _ => trivial) (fun q1 => br_of (fun _ => trivial) (fun q2 => ⟨mp_loop hβ (by simp at q1; omega), fun hfit => ?_, trivial⟩))
  have hl6 : l.length ≤ 6 := by simp at q1; omega
  have hi20 : img.length ≤ 20 := by simp at q2; omega
  have hok : l.all (okA Wr) = true := by
    rw [List.all_eq_true] at hfit ⊢
    exact fun w hw => fitW_ok (hfit w hw) (hl w hw).1 (hl w hw).2
  obtain ⟨k, hk, hkl⟩ : ∃ k : Nat, Int.tmod (IntKind.wrap .i64 u) (IntKind.wrap .i64 ((l.length : Int) + 1)) = (k : Int) ∧ k ≤ l.length := by
    rw [w64 (by omega) (by omega), w64 (by omega) (by omega)]
    refine ⟨u.toNat % (l.length + 1), ?_, by have := Nat.mod_lt u.toNat (show l.length + 1 > 0 by omega); omega⟩
    obtain ⟨u', rfl⟩ := Int.eq_ofNat_of_zero_le hu.1
    rw [show ((l.length : Int) + 1) = ((l.length + 1 : Nat) : Int) by simp]
    rw [Int.toNat_natCast]; rfl
  have hw1 : IntKind.wrap .i64 ((l.length : Int) + 1) = (l.length : Int) + 1 := w64 (by omega) (by omega)
  have hne : decide (IntKind.wrap .i64 ((l.length : Int) + 1) = 0) = false := decide_eq_false (by rw [hw1]; omega)
  have hk0 : decide ((0 : Int) ≤ (k : Int)) = true := by simp
  have hkt : Int.toNat (k : Int) = k := Int.toNat_natCast k
  have hkb : Nat.ble k l.length = true := Nat.ble_eq_true_of_le hkl
  have hcc : (bif Nat.beq l.length 0 then c else 0) ≤ 1 := by cases Nat.beq l.length 0 <;> simp; exact hc
  generalize hC : (bif Nat.beq l.length 0 then c else 0) = C at hcc
  have hkk : k + (l.length - k) = l.length := by omega
  have t1 : listT Wr (Td.fr 4 k C (encL l)) = l.take k := decL_take l hkl
  have t2 : listT Wr (Td.fr 4 (l.length - k) C fun i => encL l (k + i)) = l.drop k := decL_drop l hkk
  have t3 : ∀ (m : List Vl) (e : Nat), listT Vl (Td.fr 3 m.length e (encL m)) = m := fun m e => listT_tdL m e
  have t4 : listT Wr (Td.fr 4 l.length c (encL l)) = l := listT_tdL l c
  have o2 : ∀ (t : Td) (m : List Vl) (e : Nat), okT Wr t = true → (listT Wr t).all (okA Wr) = true → m.length ≤ 1000000 → e ≤ 1 → ok2 Wr Vl (fun l _ _ _ => l.all (okA Wr)) [Ta.cell t, Ta.cell (Td.fr 3 m.length e (encL m))] = true := fun t m e h1 h2 h3 h4 => by
    show (okT Wr t && okT Vl (tdL m e) && (listT Wr t).all (okA Wr)) = true
    rw [h1, h2, okT_tdL (allV _) h3 h4]; rfl
  have k1 : okT Wr (Td.fr 4 l.length c (encL l)) = true := okT_tdL hok (by omega) hc
  have k2 : okT Wr (Td.fr 4 k C (encL l)) = true := by
    have := okL_take hok (k := 0) (n := k) (by omega)
    simp only [Nat.zero_add] at this
    simp only [okT, Bool.or_eq_true, Bool.and_eq_true]
    exact .inl ⟨⟨⟨rfl, this⟩, Nat.ble_eq_true_of_le hcc⟩, Nat.ble_eq_true_of_le (by omega)⟩
  have k3 : okT Wr (Td.fr 4 (l.length - k) C fun i => encL l (k + i)) = true := by
    have := okL_take hok (k := k) (n := l.length - k) (by omega)
    simp only [okT, Bool.or_eq_true, Bool.and_eq_true]
    exact .inl ⟨⟨⟨rfl, this⟩, Nat.ble_eq_true_of_le hcc⟩, Nat.ble_eq_true_of_le (by omega)⟩
  have a2 : (l.take k).all (okA Wr) = true := by
    rw [List.all_eq_true] at hok ⊢
    exact fun w hw => hok w (List.mem_of_mem_take hw)
  have a3 : (l.drop k).all (okA Wr) = true := by
    rw [List.all_eq_true] at hok ⊢
    exact fun w hw => hok w (List.mem_of_mem_drop hw)
  have p1 := o2 _ img d k1 (by rw [t4]; exact hok) (by omega) hd
  have p2 := o2 _ img d k2 (by rw [t1]; exact a2) (by omega) hd
  have p3 := o2 _ (drL (l.take k) img k) d k3 (by rw [t2]; exact a3) (by rw [drL_len]; omega) hd
  have hlt : (l.take k).length = k := by simp; omega
  have hld : (l.drop k).length = l.length - k := by simp
  have e1 : Enc.es Wr = 4 := rfl
  have e2 : Enc.es Vl = 3 := rfl
  have n1 : ∀ a b e f, nilT (Td.fr a b e f) = e := fun _ _ _ _ => rfl
  have t5 : ∀ (m : List Vl) (n e : Nat), n = m.length → listT Vl (Td.fr 3 n e (encL m)) = m := fun m n e h => by subst h; exact t3 m e
  have hk0' : Nat.ble 0 k = true := by simp
  have L1 : (drL (l.take k) img k).length = img.length := drL_len ..
  have L2 : (drL l img l.length).length = img.length := drL_len ..
  have p3' : ok2 Wr Vl (fun l _ _ _ => l.all (okA Wr)) [Ta.cell (Td.fr 4 (l.length - k) C fun i => encL l (k + i)), Ta.cell (Td.fr 3 img.length d (encL (drL (l.take k) img k)))] = true := by rw [L1] at p3; exact p3
  have t6 : listT Vl (Td.fr 3 img.length d (encL (drL (l.take k) img k))) = drL (l.take k) img k := t5 _ _ _ L1.symm
  have t7 : listT Vl (Td.fr 3 img.length d (encL (drL l img l.length))) = drL l img l.length := t5 _ _ _ L2.symm
  have p4 : ok2 Vl Vl (fun _ _ _ _ => true) [Ta.cell (Td.fr 3 img.length d (encL (drL l img l.length))), Ta.cell (Td.fr 3 img.length d (encL (drL l img l.length)))] = true := by
    show (okT Vl _ && okT Vl _ && true) = true
    have : okT Vl (Td.fr 3 img.length d (encL (drL l img l.length))) = true := by
      rw [← L2]; exact okT_tdL (allV _) (by omega) hd
    rw [this]; rfl
  simp only [Int.ofNat_eq_natCast, hk, hne, hk0, hk0', hkt, hkb, hC, encZ, e1, e2, n1, Nat.zero_add, Nat.sub_zero, Nat.add_zero, Bool.not_false, Bool.true_and, Bool.and_true, need_t, bleS, t1, t2, t3, t4, t6, t7, hlt, hld, hkk, p1, p2, p3', L1, L2, drL_len, drL_parts l img hkl, p4, sameVs_self]
end Go.Proofs.Ytpejhdbllphdaaa.Ev
