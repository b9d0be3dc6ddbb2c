/-
  FeedAll: what has to hold holds.
-/
import Derived.Test.YtdmagcdkklacdaaFlV
set_option linter.unusedVariables false
set_option linter.unusedSimpArgs false
set_option maxRecDepth 100000
namespace Go.Proofs.Ytdmagcdkklacdaa.Ev
open Go Go.Proofs Go.RowKit

theorem fl1_round {l m : List Ld} {c d : Nat} {u v : Int} {β : Bs} (hβ : β.X.length = 2) (hn6 : m.length ≤ 5) (K : Kt)
    (hK1 : m.all fit30 = true → K (.exit 0) (FA1 l m c d u v m.length) (SA1 l m)) (hK2 : K .ret (FA1r true) (SA1 l m))
    (k : Nat) (hk : k ≤ m.length ∧ ∀ j, j < k → fit30 (m.getD j Enc.dflt) = true) :
    J Try.prog β (loopOf Try.prog 3 0) (FA1 l m c d u v k) (SA1 l m) (Nn β (fun k : Nat => k ≤ m.length ∧ ∀ j, j < k → fit30 (m.getD j Enc.dflt) = true) (fun k => m.length - k) (fun k : Nat => FA1 l m c d u v k) (fun _ => SA1 l m) k K) := by
  obtain ⟨hk, hfit⟩ := hk
  refine roundJ_ok (E := 2) (lvs := lvsA) (un := fun _ => 0) (fuel := 100) (n := 20) (ex := fun _ _ => False) follows toldG_ok hβ (lv := lvA1) ?_
  rw [vc_fl1_r]
  by_cases hkn : k < m.length
  · have c1 : decide ((k : Int) < Int.ofNat m.length) = true := by simpa using hkn
    have i1 : decide ((0 : Int) ≤ (k : Int)) = true := by simp
    have i2 : Int.toNat (k : Int) = k := Int.toNat_natCast k
    have i3 : Nat.blt k m.length = true := by simpa using hkn
    have i4 : Nat.ble 0 k = true := by simp
    have hw : IntKind.wrap .i64 ((k : Int) + 1) = ((k + 1 : Nat) : Int) := w64 (by omega) (by omega)
    simp only [c1, i1, i2, i3, i4, Nat.zero_add, Bool.true_and, need_t, br_t, hw]
    refine br_of (fun _ => Nn.ret (Seen.refl _ _ _) hK2) (fun q1 => ?_)
    refine Nn.next (I := fun k : Nat => k ≤ m.length ∧ ∀ j, j < k → fit30 (m.getD j Enc.dflt) = true) (m := fun k => m.length - k) (F := fun k : Nat => FA1 l m c d u v k) (S := fun _ => SA1 l m) (p := k) (k + 1) ⟨hkn, fun j hj => ?_⟩ (by omega) (Seen.refl _ _ _)
    by_cases hjk : j < k
    · exact hfit j hjk
    · have : j = k := by omega
      subst this
      show (!(decide (Int.ofNat (m.getD j Enc.dflt).l.length > 30))) = true
      rw [q1]; rfl
  · have c1 : decide ((k : Int) < Int.ofNat m.length) = false := by simpa using hkn
    have hkn' : k = m.length := by omega
    simp only [c1, br_f]
    subst hkn'
    exact Nn.exit (Seen.refl _ _ _) (hK1 (fit_all hfit rfl))
structure AllP where
  i : Nat
  k : Nat
  n : Nat
  cb : Nat
  X : List U8
  cx : Nat
  cy : Nat
  q : Bool
structure IA (B : List U8) (ll : Nat) (p : AllP) : Prop where
  i : p.i ≤ ll + 1
  kn : p.k + p.n = B.length
  cb : p.cb ≤ 1
  cx : p.cx ≤ 1
  cy : p.cy ≤ 1
  ok : p.X.all (okA U8) = true
  len : p.X.length ≤ 205
  q : p.q = true → p.X = [] ∧ p.cy = 1
theorem okFr_of {X : List U8} {b : Td} {q : Bool} {c : Nat} (h1 : X.all (okA U8) = true) (hl : X.length ≤ 1000000) (hc : c ≤ 1) (h3 : okT U8 b = true) (h4 : (listT U8 b).all (okA U8) = true) (h5 : X.length + (listT U8 b).length ≤ 1000000) (hq : q = true → X = [] ∧ c = 1) : okFr [Ta.agg [Td.fr 1 X.length c (encL X), .sc (.bool q)], Ta.cell b] = true := by
  show (okT U8 (Td.fr 1 X.length c (encL X)) && (listT U8 (Td.fr 1 X.length c (encL X))).all (okA U8) && true && (okT U8 b && (listT U8 b).all (okA U8)) && Nat.ble ((listT U8 (Td.fr 1 X.length c (encL X))).length + (listT U8 b).length) 1000000 && cond q (Nat.beq (listT U8 (Td.fr 1 X.length c (encL X))).length 0 && Nat.beq (nilT (Td.fr 1 X.length c (encL X))) 1) true) = true
  rw [okT_enc h1 hl hc, lU, h1, h3, h4, Nat.ble_eq_true_of_le h5]
  cases q with
  | false => rfl
  | true => obtain ⟨rfl, rfl⟩ := hq rfl; rfl
theorem fr_inv {q : Bool} {X M : List U8} (hq : q = true → X = []) : fdQ q X M = true → fdB q X M = [] ∧ frC q X M = 1 := by
  cases q with
  | true => intro _; exact ⟨hq rfl, rfl⟩
  | false =>
    intro h
    have h : Nat.beq (fd (X ++ M)).2.2 2 = true := h
    have h := Nat.eq_of_beq_eq_true h
    refine ⟨fdB_bad h, ?_⟩
    show cond (Nat.beq (fd (X ++ M)).2.2 2) _ _ = 1
    rw [h]; rfl
theorem frC_le {q : Bool} {X M : List U8} : frC q X M ≤ 1 := by
  unfold frC
  cases q with
  | true => exact Nat.le_refl _
  | false => show cond _ 1 0 ≤ 1; cases Nat.beq (fd (X ++ M)).2.2 2 <;> simp
theorem fl2_round {l m : List Ld} {B : List U8} {c : Nat} {β : Bs} (hβ : β.X.length = 2) (hl6 : l.length ≤ 8) (hl : ∀ a ∈ l, a.l.all (okA U8) = true ∧ a.c ≤ 1) (hB : B.all (okA U8) = true) (hBl : B.length ≤ 2000) (K : Kt)
    (hK : ∀ (k n cb : Nat) (B X : List U8) (cx cy : Nat) (q : Bool), K (.exit 2) (FA2 l c k n cb (l.length + 1)) (SA2 l m B X cx cy q)) (hK2 : K .ret (FA1r true) (SA1 l m)) (p : AllP) (hp : IA B l.length p) :
    J Try.prog β (loopOf Try.prog 3 2) (FA2 l c p.k p.n p.cb p.i) (SA2 l m B p.X p.cx p.cy p.q) (Nn β (IA B l.length) (fun p => l.length + 1 - p.i) (fun p => FA2 l c p.k p.n p.cb p.i) (fun p => SA2 l m B p.X p.cx p.cy p.q) p K) := by
  obtain ⟨i, k, n, cb, X, cx, cy, q⟩ := p
  obtain ⟨h1, h2, h3, h4, h5, h6, h7, h8⟩ := hp
  have h1 : i ≤ l.length + 1 := h1
  have h2 : k + n = B.length := h2
  have h3 : cb ≤ 1 := h3
  have h4 : cx ≤ 1 := h4
  have h5 : cy ≤ 1 := h5
  have h6 : X.all (okA U8) = true := h6
  have h7 : X.length ≤ 205 := h7
  have h8 : q = true → X = [] ∧ cy = 1 := h8
  have hgoal : roundJ Try.prog toldG 100 20 β (fun _ => 0) (cnOf 2 lvsA) (fun _ _ => False) 3 2 2 lvA2 (FA2 l c k n cb i) (SA2 l m B X cx cy q) (Nn β (IA B l.length) (fun p => l.length + 1 - p.i) (fun p => FA2 l c p.k p.n p.cb p.i) (fun p => SA2 l m B p.X p.cx p.cy p.q) ⟨i, k, n, cb, X, cx, cy, q⟩ K) → J Try.prog β (loopOf Try.prog 3 2) (FA2 l c k n cb i) (SA2 l m B X cx cy q) (Nn β (IA B l.length) (fun p => l.length + 1 - p.i) (fun p => FA2 l c p.k p.n p.cb p.i) (fun p => SA2 l m B p.X p.cx p.cy p.q) ⟨i, k, n, cb, X, cx, cy, q⟩ K) := fun h => roundJ_ok follows toldG_ok hβ h
  refine hgoal ?_
  rw [vc_fl2_r]
  have bQ : boolD (Td.sc (Value.bool q)) = q := rfl
  have hLX : ∀ c, listT U8 (Td.fr 1 X.length c (encL X)) = X := fun c => lU X c
  have hw0 : IntKind.wrap .i64 (Int.ofNat l.length + 1) = ((l.length + 1 : Nat) : Int) := by rw [Int.ofNat_eq_natCast, w64 (by omega) (by omega)]; omega
  have hw : IntKind.wrap .i64 ((i : Int) + 1) = ((i + 1 : Nat) : Int) := w64 (by omega) (by omega)
  have b0 : Nat.ble 0 k = true := by simp
  have nt : (!true) = false := rfl
  have key : ∀ M : List U8, M.all (okA U8) = true → M.length ≤ 2000 → (fdQ q X M == fdQ q X M) = true ∧ (bytesU (fdB q X M) == bytesU (fdB q X M)) = true ∧ ok2 Ld Ld (fun l x m x_1 => List.all l (okA Ld) && List.all m (okA Ld)) [Ta.cell (Td.fr 1 (fdL q X M).length 1 (encL (fdL q X M))), Ta.cell (Td.fr 1 (fdL q X M).length 1 (encL (fdL q X M)))] = true ∧ ∀ k' n' cb', k' + n' = B.length → cb' ≤ 1 → i ≤ l.length → ∀ f st, Seen β f st (FA2 l c k' n' cb' ((i + 1 : Nat) : Int)) (SA2 l m B (fdB q X M) (fdC q X cx M) (frC q X M) (fdQ q X M)) → (Nn β (IA B l.length) (fun p => l.length + 1 - p.i) (fun p => FA2 l c p.k p.n p.cb p.i) (fun p => SA2 l m B p.X p.cx p.cy p.q) ⟨i, k, n, cb, X, cx, cy, q⟩ K) .normal f st := by
    intro M hM hMl
    obtain ⟨g1, g2, g3, g4⟩ := fd_good (q := q) h6 hM h7
    refine ⟨beq_self_eq_true _, by rw [bytesU_beq g1 g1]; exact sameU_self _, ok2_same g3 g3 (by omega) (by omega) (by omega) (by omega), fun k' n' cb' hkn hcb hi f st hsn => ?_⟩
    refine Nn.next (I := IA B l.length) (m := fun p : AllP => l.length + 1 - p.i) (F := fun p => FA2 l c p.k p.n p.cb p.i) (S := fun p => SA2 l m B p.X p.cx p.cy p.q) (p := ⟨i, k, n, cb, X, cx, cy, q⟩) ⟨i + 1, k', n', cb', fdB q X M, fdC q X cx M, frC q X M, fdQ q X M⟩ ⟨by show i + 1 ≤ _; omega, hkn, hcb, fdC_le h4, frC_le, g1, g2, fr_inv fun h => (h8 h).1⟩ (by show l.length + 1 - (i + 1) < l.length + 1 - i; omega) hsn
  by_cases hi : i ≤ l.length
  · have c1 : decide ((i : Int) < ((l.length + 1 : Nat) : Int)) = true := decide_eq_true (by omega)
    by_cases hi2 : i < l.length
    · have c2 : decide ((i : Int) < Int.ofNat l.length) = true := by simpa using hi2
      have i1 : decide ((0 : Int) ≤ (i : Int)) = true := by simp
      have i2 : Int.toNat (i : Int) = i := Int.toNat_natCast i
      have i3 : Nat.blt i l.length = true := by simpa using hi2
      have i4 : Nat.ble 0 i = true := by simp
      have hmem : l.getD i Enc.dflt ∈ l := by simp [List.getD, hi2]
      have ha := hl _ hmem
      simp only [hw0, hw, c1, c2, i1, i2, i3, i4, br_t, need_t, Nat.zero_add, Bool.true_and]
      generalize l.getD i Enc.dflt = a at *
      refine br_of (fun _ => Nn.ret (Seen.refl _ _ _) hK2) (fun q1 => br_of (fun q2 => ?_) (fun q2 => ?_))
      · have hal : a.l.length ≤ 60 := by simp at q1; omega
        have hE : (if Int.ofNat n < Int.ofNat a.l.length then Int.ofNat n else Int.ofNat a.l.length) = ((min a.l.length n : Nat) : Int) := by
          rw [Int.ofNat_eq_natCast, Int.ofNat_eq_natCast]
          split <;> omega
        generalize hnn : min a.l.length n = nn at *
        have hnl : nn ≤ n := by omega
        have e0 : Int.toNat (nn : Int) = nn := Int.toNat_natCast nn
        have e1 : decide ((0 : Int) ≤ (nn : Int)) = true := by simp
        have e2 : Nat.ble nn n = true := Nat.ble_eq_true_of_le hnl
        have e3 : Nat.ble (k + nn) B.length = true := Nat.ble_eq_true_of_le (by omega)
        have hx : (bif Nat.beq n 0 then cb else 0) ≤ 1 := by cases Nat.beq n 0 <;> simp <;> omega
        have lM : ∀ c, listT U8 (Td.fr 1 nn c fun i => encL B (k + i)) = (B.drop k).take nn := fun c => listU_mid B c (by omega)
        have hM := mid_all hB k nn
        have hMl := mid_len B (k := k) (n := nn) (by omega)
        have oM := okT_mid (c := bif Nat.beq n 0 then cb else 0) hB (k := k) (n := nn) (by omega) (by omega) hx
        have f1 := okFd_of (q := q) (a := Td.fr 1 X.length cx (encL X)) (okT_enc h6 (by omega) h4) (by rw [hLX]; exact h6) oM (by rw [lM]; exact hM) (by rw [hLX, lM, hMl]; omega)
        have f2 := okFr_of (q := q) (c := cy) h6 (by omega) h5 oM (by rw [lM]; exact hM) (by rw [lM, hMl]; omega) h8
        obtain ⟨k1, k2, k3, k4⟩ := key _ hM (by omega)
        simp only [hE, e0, e1, e2, e3, br_t, br_f, need_t, Nat.zero_add, Nat.add_zero, Nat.sub_zero, encZ, Bool.true_and, bleS, b0, bQ, hLX, lM, f1, f2, k1, k2, k3, nt, allB_all, bytes_all, lLd, sameLs_self]
        exact k4 (k + nn) (n - nn) _ (by omega) hx hi _ _ (Seen.refl _ _ _)
      · have hal : a.l.length ≤ 60 := by simp at q1; omega
        have lM : ∀ c, listT U8 (Td.fr 1 a.l.length c (encL a.l)) = a.l := fun c => lU a.l c
        have oM := okT_enc (c := a.c) ha.1 (by omega) ha.2
        have f1 := okFd_of (q := q) (a := Td.fr 1 X.length cx (encL X)) (okT_enc h6 (by omega) h4) (by rw [hLX]; exact h6) oM (by rw [lM]; exact ha.1) (by rw [hLX, lM]; omega)
        have f2 := okFr_of (q := q) (c := cy) h6 (by omega) h5 oM (by rw [lM]; exact ha.1) (by rw [lM]; omega) h8
        obtain ⟨k1, k2, k3, k4⟩ := key _ ha.1 (by omega)
        simp only [br_t, br_f, need_t, Nat.zero_add, Nat.add_zero, Nat.sub_zero, encZ, Bool.true_and, bleS, b0, bQ, hLX, lM, f1, f2, k1, k2, k3, nt, allB_all, bytes_all, lLd, sameLs_self]
        exact k4 k n cb h2 h3 hi _ _ (Seen.refl _ _ _)
    · have c2 : decide ((i : Int) < Int.ofNat l.length) = false := by simpa using hi2
      have e3 : Nat.ble (k + n) B.length = true := Nat.ble_eq_true_of_le (by omega)
      have lM : ∀ c, listT U8 (Td.fr 1 n c fun i => encL B (k + i)) = (B.drop k).take n := fun c => listU_mid B c (by omega)
      have hM := mid_all hB k n
      have hMl := mid_len B (k := k) (n := n) (by omega)
      have oM := okT_mid (c := cb) hB (k := k) (n := n) (by omega) (by omega) h3
      have f1 := okFd_of (q := q) (a := Td.fr 1 X.length cx (encL X)) (okT_enc h6 (by omega) h4) (by rw [hLX]; exact h6) oM (by rw [lM]; exact hM) (by rw [hLX, lM, hMl]; omega)
      have f2 := okFr_of (q := q) (c := cy) h6 (by omega) h5 oM (by rw [lM]; exact hM) (by rw [lM, hMl]; omega) h8
      obtain ⟨k1, k2, k3, k4⟩ := key _ hM (by omega)
      simp only [hw0, hw, c1, c2, e3, br_t, br_f, need_t, Nat.zero_add, Nat.add_zero, Nat.sub_zero, encZ, Bool.true_and, bleS, b0, bQ, hLX, lM, f1, f2, k1, k2, k3, nt, allB_all, bytes_all, lLd, sameLs_self]
      exact k4 k n cb h2 h3 hi _ _ (Seen.refl _ _ _)
  · have c1 : decide ((i : Int) < ((l.length + 1 : Nat) : Int)) = false := decide_eq_false (by omega)
    have hie : ((i : Nat) : Int) = (l.length : Int) + 1 := by omega
    simp only [hw0, c1, br_f]
    have hK1 := hK k n cb B X cx cy q
    rw [hie]
    exact Nn.exit (Seen.refl _ _ _) hK1
theorem fl_seen {l m : List Ld} {B : List U8} {c : Nat} {e : Nat → Nat → Td} {nn : Nat} {β : Bs} (hβ : β.X.length = 2) (hR : RowU e nn B) :
    Seen β (mkF 117 [(0, .slice (some ⟨0, 0, some 0⟩) l.length c), (10, .slice (some ⟨2, 0, some 0⟩) B.length 1), (11, .pointer (some ⟨3, 0, none⟩)), (12, .pointer (some ⟨4, 0, none⟩)), (13, .int .i64 0)]) (mkS [some (.row .still 1 0 l.length (encL l)), some (.row .still 1 0 m.length (encL m)), some (.row .mine 1 0 nn e), some (.cells [.slice none 0 0, .bool false] true 0), some (.cells [.slice none 0 0, .bool false] true 0)])
      (FA2 l c 0 B.length 1 0) (SA2 l m B [] 1 1 false) := by
  refine Seen.trans (Seen.void 1 (encL ([] : List U8))) (Seen.trans (Seen.void 1 (encL ([] : List U8))) (Seen.trans (Seen.objs (l2 := [some (rowO .still l), some (rowO .still m), some (rowO .mine B), some (.cells [nilRow 5, .bool false] true 0), some (.cells [nilRow 6, .bool false] true 0), some (rowO .mine ([] : List U8)), some (rowO .mine ([] : List U8))]) rfl fun q o2 h => ?_) (Seen.canon (E := 2) (slots := slA2) hβ fun K => by kernel_rfl)))
  match q, h with
  | 0, h => cases h; exact ⟨_, rfl, rfl, fun _ _ _ h => h⟩
  | 1, h => cases h; exact ⟨_, rfl, rfl, fun _ _ _ h => h⟩
  | 2, h => cases h; exact ⟨_, rfl, rfl, fun _ _ _ h => hR.obj _ _ _ h⟩
  | 3, h => cases h; exact ⟨_, rfl, rfl, fun _ _ _ h => ObjR.nilCell (j := 0) (k := 5) rfl h⟩
  | 4, h => cases h; exact ⟨_, rfl, rfl, fun _ _ _ h => ObjR.nilCell (j := 0) (k := 6) rfl h⟩
  | 5, h => cases h; exact ⟨_, rfl, rfl, fun _ _ _ h => h⟩
  | 6, h => cases h; exact ⟨_, rfl, rfl, fun _ _ _ h => h⟩
theorem fall_law {l m : List Ld} {c d : Nat} {u v : Int} (hc : c ≤ 1) (hd : d ≤ 1) (hl : ∀ a ∈ l, a.l.all (okA U8) = true ∧ a.c ≤ 1) (hm : ∀ a ∈ m, a.l.all (okA U8) = true ∧ a.c ≤ 1) (hu : 0 ≤ u ∧ u < 65536) (hv : 0 ≤ v ∧ v < 256) (w : World) (args' : Array Value) (ha : PW (TR w (There w)) [tdL l c, tdL m d, .sc (.int .u16 u), .sc (.int .u8 v)] args'.toList) :
    Calls Try.prog 3 args' w fun e w' => e = .returned (.bool true) ∧ Below w.heap.size w w' := by
  refine law_top (C := toldG) (fuel := 100) (n := 20) (un := fun _ => 0) (lvs := lvsA) (ex := exFA l m c d u v) follows toldG_ok (fun β hβ => ?_) w args' ha
  show lawE _ _ _ _ _ _ (cnOf 2 lvsA) _ _ [.slice (some ⟨0, 0, some 0⟩) l.length c, .slice (some ⟨1, 0, some 0⟩) m.length d, .int .u16 u, .int .u8 v] (mkS [some (rowO .still l), some (rowO .still m)]) trueE
  rw [vc_fl]
  refine br_of (fun _ => trivial) (fun q1 => br_of (fun _ => trivial) (fun q2 => ?_))
  have hl8 : l.length ≤ 8 := by simp at q1; omega
  have hm5 : m.length ≤ 5 := by simp at q2; omega
  refine ⟨loop_rule (fun k : Nat => k ≤ m.length ∧ ∀ j, j < k → fit30 (m.getD j Enc.dflt) = true) (fun k => FA1 l m c d u v k) (fun _ => SA1 l m) (fun k => m.length - k) (fun k hk K hK => fl1_round hβ hm5 K hK.1 hK.2 k hk) 0 ⟨Nat.zero_le _, fun j hj => by omega⟩, fun hfit => ?_, trivial⟩
  have h30 := fit30_le hfit
  have hok := all_fitLd hm h30 (by omega)
  have hLl := loadsN_len m m.length
  have hLo := loadsN_ok hok (Nat.le_refl _)
  generalize hL : loadsN m m.length = L at *
  have o1 := ok1_loads hok (by omega) hd
  have hloop : ∀ B : List U8, B.all (okA U8) = true → B.length ≤ 2000 → LoopJ Try.prog β (exFA l m c d u v) 2 (loopOf Try.prog 3 2) (FA2 l c 0 B.length 1 0) (SA2 l m B [] 1 1 false) := fun B hB hBl =>
    loop_rule (IA B l.length) (fun p => FA2 l c p.k p.n p.cb p.i) (fun p => SA2 l m B p.X p.cx p.cy p.q) (fun p => l.length + 1 - p.i) (fun p hp K hK => fl2_round hβ hl8 hl hB hBl K hK.1 hK.2 p hp) ⟨0, 0, B.length, 1, [], 1, 1, false⟩ ⟨Nat.zero_le _, by show 0 + _ = _; rw [Nat.zero_add], by show 1 ≤ 1; omega, by show 1 ≤ 1; omega, by show 1 ≤ 1; omega, rfl, by simp, fun h => by cases h⟩
  simp only [Nat.zero_add, encZ, lLd, hL, bleS, Bool.true_and, need_t, o1]
  refine br_of (fun hp => ?_) (fun hp => ⟨LoopJ.seen (fl_seen hβ (RowU.enc L)) (hloop L hLo (by omega)), fun _ _ _ _ _ _ _ _ => trivial, trivial⟩)
  have hp := of_decide_eq_true hp
  rw [Int.ofNat_eq_natCast] at hp
  have hpos : 0 < L.length := by omega
  obtain ⟨u, rfl⟩ := Int.eq_ofNat_of_zero_le hu.1
  have t0 : IntKind.wrap .i64 (u : Int) = (u : Int) := w64 (by omega) (by omega)
  have t1 : Int.tmod (u : Int) (Int.ofNat L.length) = ((u % L.length : Nat) : Int) := (Int.ofNat_tmod u L.length).symm
  have hlt := Nat.mod_lt u hpos
  generalize u % L.length = x at *
  have d0 : decide (Int.ofNat L.length = 0) = false := decide_eq_false (by rw [Int.ofNat_eq_natCast]; omega)
  have d1 : decide ((0 : Int) ≤ (x : Int)) = true := by simp
  have t2 : Int.toNat (x : Int) = x := Int.toNat_natCast x
  have b1 : Nat.blt x L.length = true := by simpa using hlt
  have b2 : Nat.ble 0 x = true := by simp
  have nf : (!false) = true := rfl
  simp only [t0, t1, d0, d1, t2, b1, b2, nf, Bool.true_and, need_t]
  generalize hz : BitVec.toNat (BitVec.ofInt 8 (U8.v (List.getD L x Enc.dflt)) ^^^ BitVec.ofInt 8 v) = z
  have hz8 : z < 256 := by rw [← hz]; exact BitVec.isLt _
  have w8 : IntKind.wrap .u8 (Int.ofNat z) = (z : Int) := by
    have := wrap8 z
    rw [Nat.mod_eq_of_lt hz8] at this; exact this
  rw [w8]
  have hR := (RowU.enc L).put (i0 := x) (v := (z : Int)) hlt
  have hB : (L.set x ⟨(z : Int)⟩).all (okA U8) = true := by
    rw [List.all_eq_true]
    intro b hb
    rcases List.mem_or_eq_of_mem_set hb with h | h
    · rw [List.all_eq_true] at hLo; exact hLo b h
    · subst h; exact (okU_iff _).2 ⟨by show (0 : Int) ≤ (z : Int); omega, by show (z : Int) < 256; omega⟩
  have hBl : (L.set x ⟨(z : Int)⟩).length = L.length := List.length_set ..
  refine ⟨LoopJ.seen ?_ (hloop (L.set x ⟨(z : Int)⟩) hB (by omega)), fun _ _ _ _ _ _ _ _ => trivial, trivial⟩
  have := fl_seen (l := l) (m := m) (c := c) hβ hR
  rw [hBl] at this ⊢
  exact this
end Go.Proofs.Ytdmagcdkklacdaa.Ev
