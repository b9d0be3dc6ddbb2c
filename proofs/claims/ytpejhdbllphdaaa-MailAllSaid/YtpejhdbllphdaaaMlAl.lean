/-
  MailAll: what has to hold holds.
-/
import Derived.Test.YtpejhdbllphdaaaMlAlV
import Derived.Test.YtpejhdbllphdaaaMrg
set_option linter.unusedVariables false
set_option linter.unusedSimpArgs false
namespace Go.Proofs.Ytpejhdbllphdaaa.Ev
open Go Go.Proofs Go.RowKit

theorem addWr_len (l : List Wr) (w : Wr) (h : l.length ≤ 3) : (addWr l w).length ≤ 3 := by
  unfold addWr; split
  · exact h
  · simp; omega
theorem accN_len (l : List Wr) (k : Nat) : (accN l k).length ≤ 3 := by
  induction k with
  | zero => simp [accN]
  | succ k ih => exact addWr_len _ _ ih
theorem accN_lek (l : List Wr) (k : Nat) : (accN l k).length ≤ k := by
  induction k with
  | zero => simp [accN]
  | succ k ih =>
    show (addWr _ _).length ≤ _
    unfold addWr; split
    · omega
    · simp; omega
theorem addWr_ok {l : List Wr} {w : Wr} (h : l.all (okA Wr) = true) (hw : okA Wr w = true) : (addWr l w).all (okA Wr) = true := by
  unfold addWr; split
  · exact h
  · rw [List.all_append, h]; simp [hw]
theorem accN_ok {l : List Wr} : ∀ {k : Nat}, (∀ j, j < k → okA Wr (l.getD j Enc.dflt) = true) → (accN l k).all (okA Wr) = true := by
  intro k
  induction k with
  | zero => intro _; rfl
  | succ k ih => intro h; exact addWr_ok (ih fun j hj => h j (by omega)) (h k (by omega))
theorem fit_ok {w : Wr} (h : fitW w = true) (h1 : w.ca ≤ 1 ∧ w.cv ≤ 1) : okA Wr w = true := by
  simp [fitW] at h
  exact okA_wr h1.1 (by omega) h1.2 (by omega)
theorem cA_le (k : Nat) : cA k ≤ 1 := by unfold cA; split <;> omega
theorem cA_pos {k : Nat} (h : 0 < k) : cA k = 0 := by unfold cA; rw [if_neg (by omega)]
theorem lI (l : List Int) (c : Nat) : listT Int (Td.fr 1 l.length c (encL l)) = l := listT_tdL l c
theorem lV (l : List Vl) (c : Nat) : listT Vl (Td.fr 3 l.length c (encL l)) = l := listT_tdL l c
theorem lW (l : List Wr) (c : Nat) : listT Wr (Td.fr 4 l.length c (encL l)) = l := listT_tdL l c
theorem esW : Enc.es Wr = 4 := rfl
theorem esV : Enc.es Vl = 3 := rfl
theorem esI : Enc.es Int = 1 := rfl
theorem nFr (es n c : Nat) (e : Nat → Nat → Td) : nilT (Td.fr es n c e) = c := rfl
theorem iD (x : Int) : intD (Td.sc (Value.int IntKind.i64 x)) = x := rfl
theorem okAdd_of {l : List Wr} {w : Wr} {c : Nat} (hl : l.length ≤ 1000000) (hc : c ≤ 1) (hok : l.all (okA Wr) = true) (hw : okA Wr w = true) : okAdd [Ta.cell (Td.fr 4 l.length c (encL l)), Ta.agg [Td.sc (Value.int IntKind.i64 w.s), Td.sc (Value.int IntKind.i64 w.d), Td.fr 1 w.a.length w.ca (encL w.a), Td.fr 3 w.v.length w.cv (encL w.v)]] = true := by
  obtain ⟨w1, w2, w3, w4⟩ := okA_wr_inv hw
  show (okT Wr (tdL l c) && (listT Wr (tdL l c)).all (okA Wr) && (true && true && okT Int (tdL w.a w.ca) && okT Vl (tdL w.v w.cv))) = true
  rw [okT_tdL hok hl hc, listT_tdL, hok, okT_tdL (allI _) w2 w1, okT_tdL (allV _) w4 w3]; rfl
theorem ma_round {l : List Wr} {img : List Vl} {c d : Nat} {β : Bs} (hβ : β.X.length = 2) (hn6 : l.length ≤ 6) (hl : ∀ w ∈ l, w.ca ≤ 1 ∧ w.cv ≤ 1) (K : Kt)
    (hK1 : l.all fitW = true → K (.exit 0) (FA l img (accN l l.length) (accN l l.length) c d (cA l.length) (cA l.length) l.length) (SA l img (accN l l.length) (accN l l.length))) (hK2 : K .ret (FAr true) (SAr l img))
    (k : Nat) (hk : k ≤ l.length ∧ ∀ j, j < k → fitW (l.getD j Enc.dflt) = true) :
    J Try.prog β (loopOf Try.prog 4 0) (FA l img (accN l k) (accN l k) c d (cA k) (cA k) k) (SA l img (accN l k) (accN l k)) (Nn β (fun k : Nat => k ≤ l.length ∧ ∀ j, j < k → fitW (l.getD j Enc.dflt) = true) (fun k => l.length - k) (fun k : Nat => FA l img (accN l k) (accN l k) c d (cA k) (cA k) k) (fun k => SA l img (accN l k) (accN l k)) k K) := by
  obtain ⟨hk, hfit⟩ := hk
  refine roundJ_ok (E := 2) (lvs := fun _ => slA) (un := fun _ => 0) (fuel := 100) (n := 20) (ex := fun _ _ => False) follows toldD_ok hβ (lv := lvA) ?_
  rw [vc_ma_r]
  by_cases hkn : k < l.length
  · have c1 : decide ((k : Int) < Int.ofNat l.length) = true := by simpa using hkn
    have i1 : decide ((0 : Int) ≤ (k : Int)) = true := by simp
    have i2 : Int.toNat (k : Int) = k := Int.toNat_natCast k
    have i3 : Nat.blt k l.length = true := by simpa using hkn
    have i4 : Nat.ble 0 k = true := by simp
    have hw : IntKind.wrap .i64 ((k : Int) + 1) = ((k + 1 : Nat) : Int) := w64 (by omega) (by omega)
    have hmem : ∀ j, j < l.length → l.getD j Enc.dflt ∈ l := fun j hj => by simp [List.getD, hj]
    have hokj : ∀ j, j < k → okA Wr (l.getD j Enc.dflt) = true := fun j hj => fit_ok (hfit j hj) (hl _ (hmem j (by omega)))
    have hacc := accN_ok hokj
    have h3 := accN_len l k
    have hlk := accN_lek l k
    have hnx : accN l (k + 1) = addWr (accN l k) (l.getD k Enc.dflt) := rfl
    have hcc := cA_le k
    have hca : cA (k + 1) = 0 := cA_pos (by omega)
    have hfk : fitW (l.getD k Enc.dflt) = true → ∀ j, j < k + 1 → fitW (l.getD j Enc.dflt) = true := fun h j hj => by
      by_cases hjk : j < k
      · exact hfit j hjk
      · have : j = k := by omega
        subst this; exact h
    have hokw : fitW (l.getD k Enc.dflt) = true → okA Wr (l.getD k Enc.dflt) = true := fun h => fit_ok h (hl _ (hmem k hkn))
    have hcK : 3 ≤ (accN l k).length → cA k = 0 := fun h => cA_pos (by omega)
    simp only [c1, i1, i2, i3, i4, Nat.zero_add, Bool.true_and, need_t, br_t, hw]
    have hgoal : fitW (l.getD k Enc.dflt) = true → ∀ (f : AFr) (st : ASt), Seen β f st (FA l img (accN l (k + 1)) (accN l (k + 1)) c d (cA (k + 1)) (cA (k + 1)) ((k + 1 : Nat) : Int)) (SA l img (accN l (k + 1)) (accN l (k + 1))) → (Nn β (fun k : Nat => k ≤ l.length ∧ ∀ j, j < k → fitW (l.getD j Enc.dflt) = true) (fun k => l.length - k) (fun k : Nat => FA l img (accN l k) (accN l k) c d (cA k) (cA k) k) (fun k => SA l img (accN l k) (accN l k)) k K) .normal f st := fun h f st hs =>
      Nn.next (I := fun k : Nat => k ≤ l.length ∧ ∀ j, j < k → fitW (l.getD j Enc.dflt) = true) (m := fun k => l.length - k) (F := fun k : Nat => FA l img (accN l k) (accN l k) c d (cA k) (cA k) k) (S := fun k => SA l img (accN l k) (accN l k)) (p := k) (k + 1) ⟨hkn, hfk h⟩ (by omega) hs
    clear hmem hokj hfit hfk
    rw [hnx, hca] at hgoal
    generalize accN l k = acc at *
    generalize l.getD k Enc.dflt = W at *
    obtain ⟨s, dd, a, ca, v, cv⟩ := W
    refine br_of (fun _ => Nn.ret (Seen.refl _ _ _) hK2) (fun q1 => br_of (fun _ => Nn.ret (Seen.refl _ _ _) hK2) (fun q2 => ?_))
    have hft : fitW (⟨s, dd, a, ca, v, cv⟩ : Wr) = true := by unfold fitW; rw [q1, q2]; rfl
    have hw' := hokw hft
    obtain ⟨w1, w2, w3, w4⟩ := okA_wr_inv hw'
    have hadd := okAdd_of (by omega) hcc hacc hw'
    have hgoal := hgoal hft
    simp only [encZ, Nat.zero_add, bleS, Bool.true_and, need_t, esW, esV, esI, lI, lV, lW, nFr, iD, hadd]
    refine br_of (fun q3 => ?_) (fun q3 => ?_)
    · have q3 : 3 ≤ acc.length := by simp at q3; omega
      have e1 : addEr acc = 10 := by simp [addEr, q3]
      have e2 : addWr acc (⟨s, dd, a, ca, v, cv⟩ : Wr) = acc := by simp [addWr, q3]
      rw [e2, ] at hgoal
      have p1 : ∀ x y, x ≤ 1 → y ≤ 1 → ok2 Wr Wr (fun l _ m _ => l.all (okA Wr) && eqL l m) [Ta.cell (Td.fr 4 acc.length x (encL acc)), Ta.cell (Td.fr 4 acc.length y (encL acc))] = true := fun x y hx hy => by
        show (okT Wr (tdL acc x) && okT Wr (tdL acc y) && ((listT Wr (tdL acc x)).all (okA Wr) && eqL (listT Wr (tdL acc x)) (listT Wr (tdL acc y)))) = true
        rw [okT_tdL hacc (by omega) hx, okT_tdL hacc (by omega) hy, listT_tdL, listT_tdL, hacc, eqL_self]; rfl
      simp only [e1, e2, encZ, esW, esV, esI, lW, bleS, Nat.zero_add, Bool.true_and, need_t, bne_self_eq_false, br_f, p1 0 (cA k) (by omega) hcc]
      rw [hcK q3]
      exact hgoal _ _ (Seen.refl _ _ _)
    · have q3 : ¬ 3 ≤ acc.length := by simp at q3; omega
      have e1 : addEr acc = 0 := by simp [addEr, q3]
      have e2 : addWr acc (⟨s, dd, a, ca, v, cv⟩ : Wr) = acc ++ [⟨s, dd, a, ca, v, cv⟩] := by simp [addWr, q3]
      rw [e2] at hgoal
      have c6 : Nat.ble acc.length 1000000 = true := Nat.ble_eq_true_of_le (by omega)
      have c7 : Nat.ble (acc.length + 1) 1000000 = true := Nat.ble_eq_true_of_le (by omega)
      have hall : (acc ++ [(⟨s, dd, a, ca, v, cv⟩ : Wr)]).all (okA Wr) = true := by rw [List.all_append, hacc]; simp [hw']
      have hlen : (acc ++ [(⟨s, dd, a, ca, v, cv⟩ : Wr)]).length = acc.length + 1 := by simp
      have hts : ∀ (ts : List Td), nthT ts 0 = Td.sc (.int .i64 s) → nthT ts 1 = Td.sc (.int .i64 dd) → nthT ts 2 = Td.fr 1 a.length ca (encL a) → nthT ts 3 = Td.fr 3 v.length cv (encL v) → ∀ j, j < Enc.es Wr → nthT ts j = Enc.enc (⟨s, dd, a, ca, v, cv⟩ : Wr) j := fun ts h0 h1 h2 h3 j hj => match j, hj with
        | 0, _ => h0
        | 1, _ => h1
        | 2, _ => h2
        | 3, _ => h3
      simp only [e1, e2, encZ, esW, esV, esI, lW, bleS, c6, c7, Nat.zero_add, Bool.true_and, need_t, bne_self_eq_false, br_f, hlen]
      refine need_of ?_ (hgoal _ _ ?_)
      · show (okT Wr _ && okT Wr _ && (List.all (listT Wr _) (okA Wr) && eqL (listT Wr _) (listT Wr _))) = true
        have t1 := okT_tdL (c := 0) hall (by rw [hlen]; omega) (by omega)
        have t1' : okT Wr (Td.fr 4 (acc.length + 1) 0 (encL (acc ++ [(⟨s, dd, a, ca, v, cv⟩ : Wr)]))) = true := by rw [← hlen]; exact t1
        have t2' : listT Wr (Td.fr 4 (acc.length + 1) 0 (encL (acc ++ [(⟨s, dd, a, ca, v, cv⟩ : Wr)]))) = acc ++ [(⟨s, dd, a, ca, v, cv⟩ : Wr)] := by rw [← hlen]; exact lW _ _
        rw [t1', t2', okT_app (es := 4) (α := Wr) (a := ⟨s, dd, a, ca, v, cv⟩) rfl (fun i j => rfl) (hts _ rfl rfl rfl rfl) hall (by omega) (by omega), listT_app (es := 4) (α := Wr) (a := ⟨s, dd, a, ca, v, cv⟩) rfl (fun i j => rfl) (hts _ rfl rfl rfl rfl), hall, eqL_self]
        rfl
      · unfold FA SA
        rw [hlen]
        refine Seen.objs rfl fun q o2 h => ?_
        match q, h with
        | 0, h => cases h; exact ⟨_, rfl, rfl, fun _ _ _ h => h⟩
        | 1, h => cases h; exact ⟨_, rfl, rfl, fun _ _ _ h => h⟩
        | 2, h =>
          cases h
          refine ⟨_, rfl, rfl, fun ρ s' w' h => ?_⟩
          show ObjR ρ (.row .mine 4 0 (acc ++ [_]).length (encL (acc ++ [_]))) s' w'
          rw [hlen]; exact h
        | 3, h =>
          cases h
          refine ⟨_, rfl, rfl, fun ρ s' w' h => row_app (α := Wr) (es := 4) (n := acc.length) (g := fun i j => encL acc i j) (ts := _) rfl rfl (fun i j => rfl) (hts _ rfl rfl rfl rfl) (by simpa only [Nat.zero_add] using h)⟩
  · have c1 : decide ((k : Int) < Int.ofNat l.length) = false := by simpa using hkn
    have hkn' : k = l.length := by omega
    simp only [c1, br_f]
    subst hkn'
    refine Nn.exit (Seen.refl _ _ _) (hK1 ?_)
    rw [List.all_eq_true]
    intro w hw
    obtain ⟨i, hi, rfl⟩ := List.mem_iff_getElem.1 hw
    have := hfit i hi
    simpa [List.getD, hi] using this
theorem ma_loop {l : List Wr} {img : List Vl} {c d : Nat} {β : Bs} (hβ : β.X.length = 2) (hn6 : l.length ≤ 6) (hl : ∀ w ∈ l, w.ca ≤ 1 ∧ w.cv ≤ 1) : LoopJ Try.prog β (exA l img c d) 0 (loopOf Try.prog 4 0) (mkF 89 [(0, .slice (some ⟨0, 0, some 0⟩) l.length c), (1, .slice (some ⟨1, 0, some 0⟩) img.length d), (5, .slice none 0 0), (6, .slice none 0 0), (7, .int .i64 0)]) (mkS [some (rowO .still l), some (rowO .still img)]) := by
  refine LoopJ.seen (f1 := mkF 89 [(0, .slice (some ⟨0, 0, some 0⟩) l.length c), (1, .slice (some ⟨1, 0, some 0⟩) img.length d), (5, nilRow 2), (6, .slice none 0 0), (7, .int .i64 0)]) (st1 := mkS [some (rowO .still l), some (rowO .still img), some (rowO .mine ([] : List Wr))]) (Seen.nilSlot 5 4 (encL ([] : List Wr)) rfl rfl rfl fun t v h => ?_) ?_
  · rcases mkFT_get _ _ t v h with h1 | h1
    · simp at h1
      rcases h1 with ⟨rfl, rfl⟩ | ⟨rfl, rfl⟩ | ⟨rfl, rfl⟩ | ⟨rfl, rfl⟩ | ⟨rfl, rfl⟩
      · exact .inr rfl
      · exact .inr rfl
      · exact .inl ⟨rfl, rfl⟩
      · exact .inr rfl
      · exact .inr rfl
    · cases h1
  refine LoopJ.seen (f1 := FA l img (accN l 0) (accN l 0) c d (cA 0) (cA 0) (0 : Nat)) (st1 := SA l img (accN l 0) (accN l 0)) (Seen.nilSlot 6 4 (encL ([] : List Wr)) rfl rfl rfl fun t v h => ?_) ?_
  · rcases mkFT_get _ _ t v h with h1 | h1
    · simp at h1
      rcases h1 with ⟨rfl, rfl⟩ | ⟨rfl, rfl⟩ | ⟨rfl, rfl⟩ | ⟨rfl, rfl⟩ | ⟨rfl, rfl⟩
      · exact .inr rfl
      · exact .inr rfl
      · exact .inr rfl
      · exact .inl ⟨rfl, rfl⟩
      · exact .inr rfl
    · cases h1
  exact loop_rule (fun k : Nat => k ≤ l.length ∧ ∀ j, j < k → fitW (l.getD j Enc.dflt) = true) (fun k => FA l img (accN l k) (accN l k) c d (cA k) (cA k) k) (fun k => SA l img (accN l k) (accN l k)) (fun k => l.length - k) (fun k hk K hK => ma_round hβ hn6 hl K hK.1 hK.2 k hk) 0 ⟨Nat.zero_le _, fun j hj => by omega⟩
theorem all_law {l : List Wr} {img : List Vl} {c d : Nat} (hc : c ≤ 1) (hd : d ≤ 1) (hl : ∀ w ∈ l, w.ca ≤ 1 ∧ w.cv ≤ 1) (w : World) (args' : Array Value) (ha : PW (TR w (There w)) [tdL l c, tdL img d] args'.toList) :
    Calls Try.prog 4 args' w fun e w' => e = .returned (.bool true) ∧ Below w.heap.size w w' := by
  refine law_top (C := toldD) (fuel := 100) (n := 20) (un := fun _ => 0) (lvs := fun _ => slA) (ex := exA l img c d) follows toldD_ok (fun β hβ => ?_) w args' ha
  show lawE _ _ _ _ _ _ (cnOf 2 fun _ => slA) _ _ [.slice (some ⟨0, 0, some 0⟩) l.length c, .slice (some ⟨1, 0, some 0⟩) img.length d] (mkS [some (rowO .still l), some (rowO .still img)]) trueE
  rw [vc_ma]
  refine br_of (fun _ => trivial) (fun q1 => br_of (fun _ => trivial) (fun q2 => ⟨ma_loop hβ (by simp at q1; omega) hl, fun hfit => ?_, trivial⟩))
  have hl6 : l.length ≤ 6 := by simp at q1; omega
  have hi20 : img.length ≤ 20 := by simp at q2; omega
  have hmem : ∀ j, j < l.length → l.getD j Enc.dflt ∈ l := fun j hj => by simp [List.getD, hj]
  have hok : l.all (okA Wr) = true := by
    rw [List.all_eq_true] at hfit ⊢
    exact fun w hw => fit_ok (hfit w hw) (hl w hw)
  have hacc : (accN l l.length).all (okA Wr) = true := accN_ok fun j hj => by
    rw [List.all_eq_true] at hok
    exact hok _ (hmem j hj)
  have h3 := accN_len l l.length
  have hcc := cA_le l.length
  generalize accN l l.length = acc at *
  generalize cA l.length = ca at *
  have hi6 : img.length ≤ 1000000 := by omega
  have o2 : ∀ (l : List Wr) (e : Nat), l.all (okA Wr) = true → l.length ≤ 1000000 → e ≤ 1 → ok2 Wr Vl (fun l _ _ _ => l.all (okA Wr)) [Ta.cell (Td.fr 4 l.length e (encL l)), Ta.cell (Td.fr 3 img.length d (encL img))] = true := fun l e h1 h2 h3 => by
    show (okT Wr (tdL l e) && okT Vl (tdL img d) && (listT Wr (tdL l e)).all (okA Wr)) = true
    rw [okT_tdL h1 h2 h3, okT_tdL (allV _) hi6 hd, listT_tdL, h1]; rfl
  have p1 := o2 acc ca hacc (by omega) hcc
  have p2 := o2 l c hok (by omega) hc
  have t5 : ∀ (m : List Vl) (n e : Nat), n = m.length → listT Vl (Td.fr 3 n e (encL m)) = m := fun m n e h => by subst h; exact lV m e
  have p3 : ∀ (m : List Vl) (x y : Nat), m.length = img.length → x ≤ 1 → y ≤ 1 → ok2 Vl Vl (fun _ _ _ _ => true) [Ta.cell (Td.fr 3 img.length x (encL m)), Ta.cell (Td.fr 3 img.length y (encL m))] = true := fun m x y hm hx hy => by
    rw [← hm]
    exact ok2_vl (by omega) (by omega) hx hy
  have L1 : ∀ (a : List Wr) (k : Nat), (drL a img k).length = img.length := fun a k => drL_len ..
  have L2 : ∀ (a : List Wr) (k x : Nat), listT Vl (Td.fr 3 img.length x (encL (drL a img k))) = drL a img k := fun a k x => t5 _ _ _ (L1 a k).symm
  simp only [encZ, esW, esV, esI, nFr, Nat.zero_add, Bool.true_and, need_t, bleS, lW, lV, p1, p2, L1, L2, p3 _ d 0 (L1 _ _) hd (by omega), sameVs_self]
end Go.Proofs.Ytpejhdbllphdaaa.Ev
