/-
  FeedCuts: what has to hold holds.
-/
import Derived.Test.YtdmagcdkklacdaaFcV
set_option linter.unusedVariables false
set_option linter.unusedSimpArgs false
set_option maxRecDepth 100000
namespace Go.Proofs.Ytdmagcdkklacdaa.Ev
open Go Go.Proofs Go.RowKit

theorem fc1_round {l : List Ld} {b m : List U8} {c d e : Nat} {β : Bs} (hβ : β.X.length = 3) (hn6 : l.length ≤ 4) (K : Kt)
    (hK1 : l.all fit40 = true → K (.exit 0) (FC1 l b m c d e l.length) (SC1 l b m)) (hK2 : K .ret (FC1r true) (SC1 l b m))
    (k : Nat) (hk : k ≤ l.length ∧ ∀ j, j < k → fit40 (l.getD j Enc.dflt) = true) :
    J Try.prog β (loopOf Try.prog 4 0) (FC1 l b m c d e k) (SC1 l b m) (Nn β (fun k : Nat => k ≤ l.length ∧ ∀ j, j < k → fit40 (l.getD j Enc.dflt) = true) (fun k => l.length - k) (fun k : Nat => FC1 l b m c d e k) (fun _ => SC1 l b m) k K) := by
  obtain ⟨hk, hfit⟩ := hk
  refine roundJ_ok (E := 3) (lvs := lvsC) (un := fun _ => 0) (fuel := 100) (n := 20) (ex := fun _ _ => False) follows toldG_ok hβ (lv := lvC1) ?_
  rw [vc_fc1_r]
  by_cases hkn : k < l.length
  · have c1 : decide ((k : Int) < Int.ofNat l.length) = true := by simpa using hkn
    have i1 : decide ((0 : Int) ≤ (k : Int)) = true := by simp
    have i2 : Int.toNat (k : Int) = k := Int.toNat_natCast k
    have i3 : Nat.blt k l.length = true := by simpa using hkn
    have i4 : Nat.ble 0 k = true := by simp
    have hw : IntKind.wrap .i64 ((k : Int) + 1) = ((k + 1 : Nat) : Int) := w64 (by omega) (by omega)
    simp only [c1, i1, i2, i3, i4, Nat.zero_add, Bool.true_and, need_t, br_t, hw]
    refine br_of (fun _ => Nn.ret (Seen.refl _ _ _) hK2) (fun q1 => ?_)
    refine Nn.next (I := fun k : Nat => k ≤ l.length ∧ ∀ j, j < k → fit40 (l.getD j Enc.dflt) = true) (m := fun k => l.length - k) (F := fun k : Nat => FC1 l b m c d e k) (S := fun _ => SC1 l b m) (p := k) (k + 1) ⟨hkn, fun j hj => ?_⟩ (by omega) (Seen.refl _ _ _)
    by_cases hjk : j < k
    · exact hfit j hjk
    · have : j = k := by omega
      subst this
      show (!(decide (Int.ofNat (l.getD j Enc.dflt).l.length > 40))) = true
      rw [q1]; rfl
  · have c1 : decide ((k : Int) < Int.ofNat l.length) = false := by simpa using hkn
    have hkn' : k = l.length := by omega
    simp only [c1, br_f]
    subst hkn'
    exact Nn.exit (Seen.refl _ _ _) (hK1 (fit_all hfit rfl))
structure IC (T : List U8) (ml : Nat) (s : Nat × CutP) : Prop where
  t : s.2.T = T
  x : s.2.X = fdB false [] T
  q : s.2.q = fdQ false [] T
  a : s.2.A = fdL false [] T
  kn : s.2.k + s.2.n = T.length
  y : s.2.Y = fdB false [] (T.take s.2.k)
  r : s.2.r = fdQ false [] (T.take s.2.k)
  p : s.2.P = fdL false [] (T.take s.2.k)
  cb : s.2.cb ≤ 1
  cy : s.2.cy ≤ 1
  j : s.1 ≤ ml + 1
  e : s.1 = ml + 1 → s.2.n = 0
theorem take_take_drop {α : Type} (l : List α) (k n : Nat) : l.take k ++ (l.drop k).take n = l.take (k + n) := by rw [List.take_add]
def cutN (p : CutP) (nn cb : Nat) : CutP := ⟨p.T, p.k + nn, p.n - nn, cb, p.X, p.cx, p.q, p.A, fdB p.r p.Y ((p.T.drop p.k).take nn), fdC p.r p.Y p.cy ((p.T.drop p.k).take nn), fdQ p.r p.Y ((p.T.drop p.k).take nn), p.P ++ fdL p.r p.Y ((p.T.drop p.k).take nn)⟩
theorem cut_next {T : List U8} {ml j nn cb : Nat} {p : CutP} (hT : T.all (okA U8) = true) (h : IC T ml (j, p)) (hj : j ≤ ml) (hnn : nn ≤ p.n) (hl : j = ml → nn = p.n) (hcb : cb ≤ 1) : IC T ml (j + 1, cutN p nn cb) := by
  obtain ⟨h1, h2, h3, h4, h5, h6, h7, h8, h9, h10, h11, h12⟩ := h
  have h1 : p.T = T := h1
  have h5 : p.k + p.n = T.length := h5
  have h6 : p.Y = _ := h6
  have h7 : p.r = _ := h7
  have h8 : p.P = _ := h8
  have hA := fd_ok (T.take p.k) (take_all hT _)
  obtain ⟨g1, g2, g3⟩ := fd_two (T.take p.k) ((T.drop p.k).take nn) hA.2.2.2.2.1
  rw [take_take_drop] at g1 g2 g3
  refine ⟨h1, h2, h3, h4, by show p.k + nn + (p.n - nn) = _; omega, ?_, ?_, ?_, hcb, fdC_le h10, by show j + 1 ≤ _; omega, fun he => ?_⟩
  · show fdB p.r p.Y ((p.T.drop p.k).take nn) = fdB false [] (T.take (p.k + nn))
    rw [h6, h7, h1]; exact g2
  · show fdQ p.r p.Y ((p.T.drop p.k).take nn) = fdQ false [] (T.take (p.k + nn))
    rw [h6, h7, h1]; exact g1
  · show p.P ++ fdL p.r p.Y ((p.T.drop p.k).take nn) = fdL false [] (T.take (p.k + nn))
    rw [h6, h7, h8, h1]; exact g3
  · have he : j + 1 = ml + 1 := he
    have := hl (by omega)
    show p.n - nn = 0
    omega
theorem cut_seen {l : List Ld} {b m : List U8} {c e nn cb : Nat} {p : CutP} {j : Int} {β : Bs} :
    Seen β (mkF 114 [(0, .slice (some ⟨0, 0, some 0⟩) l.length c), (2, .slice (some ⟨2, 0, some 0⟩) m.length e), (8, .slice (some ⟨3, 0, some (p.k + nn)⟩) (p.n - nn) cb), (9, .pointer (some ⟨4, 0, none⟩)), (10, .slice (some ⟨6, 0, some 0⟩) p.A.length 1), (11, .pointer (some ⟨7, 0, none⟩)), (12, .slice (some ⟨9, 0, some 0⟩) (p.P.length + (fdL p.r p.Y ((p.T.drop p.k).take nn)).length) 1), (13, .int .i64 j)])
      (mkS [some (.row .still 1 0 l.length (encL l)), some (.row .still 1 0 b.length (encL b)), some (.row .still 1 0 m.length (encL m)), some (.row .mine 1 0 p.T.length (encL p.T)), some (.cells [.slice (some ⟨5, 0, some 0⟩) p.X.length p.cx, .bool p.q] true 0), some (.row .mine 1 0 p.X.length (encL p.X)), some (.row .mine 1 0 p.A.length (encL p.A)), some (.cells [.slice (some ⟨8, 0, some 0⟩) (fdB p.r p.Y ((p.T.drop p.k).take nn)).length (fdC p.r p.Y p.cy ((p.T.drop p.k).take nn)), .bool (fdQ p.r p.Y ((p.T.drop p.k).take nn))] true 0), some (.row .mine 1 0 (fdB p.r p.Y ((p.T.drop p.k).take nn)).length (encL (fdB p.r p.Y ((p.T.drop p.k).take nn)))), some (.row .mine 1 0 (p.P.length + (fdL p.r p.Y ((p.T.drop p.k).take nn)).length) fun j k => mrgT (Nat.blt j p.P.length) (encL p.P j k) (encL (fdL p.r p.Y ((p.T.drop p.k).take nn)) (j - p.P.length) k))])
      (FC2 l m c e (cutN p nn cb) j) (SC2 l b m (cutN p nn cb)) := by
  unfold FC2 SC2 cutN
  simp only [List.length_append]
  refine Seen.objs rfl fun q o2 h => ?_
  match q, h with
  | 0, h => cases h; exact ⟨_, rfl, rfl, fun _ _ _ h => h⟩
  | 1, h => cases h; exact ⟨_, rfl, rfl, fun _ _ _ h => h⟩
  | 2, h => cases h; exact ⟨_, rfl, rfl, fun _ _ _ h => h⟩
  | 3, h => cases h; exact ⟨_, rfl, rfl, fun _ _ _ h => h⟩
  | 4, h => cases h; exact ⟨_, rfl, rfl, fun _ _ _ h => h⟩
  | 5, h => cases h; exact ⟨_, rfl, rfl, fun _ _ _ h => h⟩
  | 6, h => cases h; exact ⟨_, rfl, rfl, fun _ _ _ h => h⟩
  | 7, h => cases h; exact ⟨_, rfl, rfl, fun _ _ _ h => h⟩
  | 8, h => cases h; exact ⟨_, rfl, rfl, fun _ _ _ h => h⟩
  | 9, h => cases h; exact ⟨_, rfl, rfl, fun _ _ _ h => row_app2 rfl h⟩
theorem fc2_round {l : List Ld} {b m T : List U8} {c e : Nat} {β : Bs} (hβ : β.X.length = 3) (hm : m.all (okA U8) = true) (hm6 : m.length ≤ 20) (hT : T.all (okA U8) = true) (hTl : T.length ≤ 2000) (K : Kt)
    (hK : ∀ p : CutP, GoodC l p → K (.exit 2) (FC2 l m c e p (m.length + 1)) (SC2 l b m p)) (hG : l.length ≤ (fdL false [] T).length ∧ ((fdL false [] T).take l.length).map Ld.l = l.map Ld.l)
    (s : Nat × CutP) (hs : IC T m.length s) :
    J Try.prog β (loopOf Try.prog 4 2) (FC2 l m c e s.2 s.1) (SC2 l b m s.2) (Nn β (IC T m.length) (fun s => m.length + 1 - s.1) (fun s => FC2 l m c e s.2 s.1) (fun s => SC2 l b m s.2) s K) := by
  obtain ⟨j, p⟩ := s
  have hj1 : j ≤ m.length + 1 := hs.j
  have h1 : p.T = T := hs.t
  have h5 : p.k + p.n = T.length := hs.kn
  have hcb : p.cb ≤ 1 := hs.cb
  have hcy : p.cy ≤ 1 := hs.cy
  have hTk := take_all hT p.k
  obtain ⟨y1, y2, y3, y4⟩ := fd_good (q := false) (X := []) (M := T.take p.k) rfl hTk (by simp)
  rw [← show p.Y = fdB false [] (T.take p.k) from hs.y] at y1 y2
  rw [← show p.P = fdL false [] (T.take p.k) from hs.p] at y3 y4
  have hgoal : roundJ Try.prog toldG 100 20 β (fun _ => 0) (cnOf 3 lvsC) (fun _ _ => False) 4 2 3 lvC2 (FC2 l m c e p j) (SC2 l b m p) (Nn β (IC T m.length) (fun s => m.length + 1 - s.1) (fun s => FC2 l m c e s.2 s.1) (fun s => SC2 l b m s.2) (j, p) K) → J Try.prog β (loopOf Try.prog 4 2) (FC2 l m c e p j) (SC2 l b m p) (Nn β (IC T m.length) (fun s => m.length + 1 - s.1) (fun s => FC2 l m c e s.2 s.1) (fun s => SC2 l b m s.2) (j, p) K) := fun h => roundJ_ok follows toldG_ok hβ h
  refine hgoal ?_
  rw [vc_fc2_r]
  have bR : boolD (Td.sc (Value.bool p.r)) = p.r := rfl
  have i0 : ∀ n : Nat, Int.toNat (Int.ofNat n) = n := fun n => Int.toNat_natCast n
  have i2 : Int.toNat (j : Int) = j := Int.toNat_natCast j
  have hx : (bif Nat.beq p.n 0 then p.cb else 0) ≤ 1 := by cases Nat.beq p.n 0 <;> simp <;> omega
  have hw : IntKind.wrap .i64 ((j : Int) + 1) = ((j + 1 : Nat) : Int) := w64 (by omega) (by omega)
  have hTp : p.T.all (okA U8) = true := by rw [h1]; exact hT
  have hTlp : p.T.length = T.length := by rw [h1]
  have hLY : ∀ c, listT U8 (Td.fr 1 p.Y.length c (encL p.Y)) = p.Y := fun c => lU p.Y c
  have b0 : Nat.ble 0 p.k = true := by simp
  have key : ∀ nn, nn ≤ p.n → (∀ c, listT U8 (Td.fr 1 nn c fun i => encL p.T (p.k + i)) = (p.T.drop p.k).take nn) ∧ okFd [Ta.agg [Td.fr 1 p.Y.length p.cy (encL p.Y), Td.sc (Value.bool p.r)], Ta.cell (Td.fr 1 nn (bif Nat.beq p.n 0 then p.cb else 0) fun i => encL p.T (p.k + i))] = true ∧ Nat.ble (p.k + nn) p.T.length = true ∧ Nat.ble (p.P.length + (fdL p.r p.Y ((p.T.drop p.k).take nn)).length) 1000000 = true ∧ Nat.ble nn p.n = true := by
    intro nn hnn
    have e1 : ∀ c, listT U8 (Td.fr 1 nn c fun i => encL p.T (p.k + i)) = (p.T.drop p.k).take nn := fun c => listU_mid p.T c (by omega)
    have hM := mid_all hTp p.k nn
    have hMl := mid_len p.T (k := p.k) (n := nn) (by omega)
    have g := (fd_good (q := p.r) y1 hM y2).2.2.2
    refine ⟨e1, okFd_of (okT_enc y1 (by omega) hcy) (by rw [hLY]; exact y1) (okT_mid hTp (by omega) (by omega) hx) (by rw [e1]; exact hM) ?_, Nat.ble_eq_true_of_le (by omega), Nat.ble_eq_true_of_le ?_, Nat.ble_eq_true_of_le hnn⟩
    · rw [hLY, e1, hMl]; omega
    · have : p.P.length ≤ p.k := by simp at y4; omega
      omega
  have fin : ∀ nn, nn ≤ p.n → j ≤ m.length → (j = m.length → nn = p.n) → ∀ f st, Seen β f st (FC2 l m c e (cutN p nn (bif Nat.beq p.n 0 then p.cb else 0)) ((j + 1 : Nat) : Int)) (SC2 l b m (cutN p nn (bif Nat.beq p.n 0 then p.cb else 0))) → (Nn β (IC T m.length) (fun s => m.length + 1 - s.1) (fun s => FC2 l m c e s.2 s.1) (fun s => SC2 l b m s.2) (j, p) K) .normal f st := fun nn hnn hj hl f st hsn =>
    Nn.next (I := IC T m.length) (m := fun s : Nat × CutP => m.length + 1 - s.1) (F := fun s => FC2 l m c e s.2 s.1) (S := fun s => SC2 l b m s.2) (p := (j, p)) (j + 1, cutN p nn (bif Nat.beq p.n 0 then p.cb else 0)) (cut_next hT hs hj hnn hl hx) (by show m.length + 1 - (j + 1) < m.length + 1 - j; omega) hsn
  by_cases hj : j ≤ m.length
  · have c1 : decide ((j : Int) ≤ Int.ofNat m.length) = true := by simpa using hj
    by_cases hj2 : j < m.length
    · have c2 : decide ((j : Int) < Int.ofNat m.length) = true := by simpa using hj2
      have i1 : decide ((0 : Int) ≤ (j : Int)) = true := by simp
      have i3 : Nat.blt j m.length = true := by simpa using hj2
      have i4 : Nat.ble 0 j = true := by simp
      have hv := all_getU hm hj2
      generalize hvv : (m.getD j Enc.dflt).v = v at *
      obtain ⟨v, rfl⟩ := Int.eq_ofNat_of_zero_le hv.1
      have t1 : Int.tmod (v : Int) 30 = ((v % 30 : Nat) : Int) := (Int.ofNat_tmod v 30).symm
      have t2 : IntKind.wrap .i64 ((v % 30 : Nat) : Int) = ((v % 30 : Nat) : Int) := w64 (by omega) (by omega)
      have hE : (if Int.ofNat p.n < ((v % 30 : Nat) : Int) then Int.ofNat p.n else ((v % 30 : Nat) : Int)) = ((min (v % 30) p.n : Nat) : Int) := by
        rw [Int.ofNat_eq_natCast]
        split <;> omega
      generalize hnn : min (v % 30) p.n = nn at *
      have hnl : nn ≤ p.n := by omega
      obtain ⟨k1, k2, k3, k4, k5⟩ := key nn hnl
      have e0 : Int.toNat (nn : Int) = nn := Int.toNat_natCast nn
      have e1 : decide ((0 : Int) ≤ (nn : Int)) = true := by simp
      simp only [c1, c2, i1, i2, i3, i4, hvv, t1, t2, hE, e0, e1, br_t, need_t, Nat.zero_add, Nat.add_zero, Nat.sub_zero, Bool.true_and, bleS, b0, bR, hLY, k1, k2, k3, k4, k5, hw]
      exact fin nn hnl hj (fun h => by omega) _ _ cut_seen
    · have c2 : decide ((j : Int) < Int.ofNat m.length) = false := by simpa using hj2
      obtain ⟨k1, k2, k3, k4, k5⟩ := key p.n (Nat.le_refl _)
      simp only [c1, c2, br_t, br_f, i0, need_t, Nat.zero_add, Nat.add_zero, Nat.sub_zero, Bool.true_and, bleS, b0, bR, hLY, k1, k2, k3, k4, k5, hw]
      exact fin p.n (Nat.le_refl _) hj (fun h => rfl) _ _ cut_seen
  · have c1 : decide ((j : Int) ≤ Int.ofNat m.length) = false := by simpa using hj
    have hje : j = m.length + 1 := by omega
    have hn0 : p.n = 0 := hs.e hje
    simp only [c1, br_f]
    have htk : T.take p.k = T := List.take_of_length_le (by omega)
    have a1 : p.A = fdL false [] T := hs.a
    have hgood := (fd_good (q := false) (X := []) (M := T) rfl hT (by simp))
    have hGC : GoodC l p := by
      refine ⟨?_, ?_, ?_, ?_, ?_, ?_, ?_, ?_⟩
      · rw [hs.x, hs.y, htk]
      · rw [hs.q, hs.r, htk]
      · rw [hs.a, hs.p, htk]
      · rw [a1]; exact hG.1
      · rw [a1]; exact hG.2
      · rw [a1]; exact hgood.2.2.1
      · rw [a1]; have := hgood.2.2.2; simp at this; omega
      · rw [hs.x]; exact hgood.1
    have hK1 := hK p hGC
    have : ((j : Nat) : Int) = (m.length : Int) + 1 := by omega
    rw [this]
    exact Nn.exit (Seen.refl _ _ _) hK1
theorem cuts_law {l : List Ld} {b m : List U8} {c d e : Nat} (hc : c ≤ 1) (hd : d ≤ 1) (he : e ≤ 1) (hl : ∀ a ∈ l, a.l.all (okA U8) = true ∧ a.c ≤ 1) (hb : b.all (okA U8) = true) (hm : m.all (okA U8) = true) (w : World) (args' : Array Value) (ha : PW (TR w (There w)) [tdL l c, tdL b d, tdL m e] args'.toList) :
    Calls Try.prog 4 args' w fun e w' => e = .returned (.bool true) ∧ Below w.heap.size w w' := by
  refine law_top (C := toldG) (fuel := 100) (n := 20) (un := fun _ => 0) (lvs := lvsC) (ex := exC l b m c d e) follows toldG_ok (fun β hβ => ?_) w args' ha
  show lawE _ _ _ _ _ _ (cnOf 3 lvsC) _ _ [.slice (some ⟨0, 0, some 0⟩) l.length c, .slice (some ⟨1, 0, some 0⟩) b.length d, .slice (some ⟨2, 0, some 0⟩) m.length e] (mkS [some (rowO .still l), some (rowO .still b), some (rowO .still m)]) trueE
  rw [vc_fc]
  refine br_of (fun _ => trivial) (fun q1 => br_of (fun _ => trivial) (fun q2 => br_of (fun _ => trivial) (fun q3 => ?_)))
  have hl4 : l.length ≤ 4 := by simp at q1; omega
  have hb100 : b.length ≤ 100 := by simp at q2; omega
  have hm20 : m.length ≤ 20 := by simp at q3; omega
  refine ⟨loop_rule (fun k : Nat => k ≤ l.length ∧ ∀ j, j < k → fit40 (l.getD j Enc.dflt) = true) (fun k => FC1 l b m c d e k) (fun _ => SC1 l b m) (fun k => l.length - k) (fun k hk K hK => fc1_round hβ hl4 K hK.1 hK.2 k hk) 0 ⟨Nat.zero_le _, fun j hj => by omega⟩, fun hfit => ?_, trivial⟩
  have h40 := fit40_le hfit
  have hok := all_fitLd hl h40 (by omega)
  have h200 : ∀ a ∈ l, a.l.length ≤ 200 := fun a ha => by have := h40 a ha; omega
  have hLl := loadsN_len l l.length
  have hLo := loadsN_ok hok (Nat.le_refl _)
  have hfd := fd_loads_all h200 b
  generalize hL : loadsN l l.length = L at *
  have hbig : List.all (L ++ b) (okA U8) = true := by rw [List.all_append, hLo, hb]; rfl
  have hR := (RowU.enc L).app (RowU.enc b)
  have hTl : (L ++ b).length = L.length + b.length := List.length_append
  have r1 := hR.list (c := 1)
  have r2 := hR.okT (c := 1) hbig (by omega) (by omega)
  have o1 := ok1_loads hok (by omega) hc
  have k1 : Nat.ble (L.length + b.length) 1000000 = true := Nat.ble_eq_true_of_le (by omega)
  have f1 := okFd_of (a := Td.fr 0 0 1 noT) (q := false) okT_nil0 rfl r2 (by rw [r1]; exact hbig) (by rw [r1, listT_nil0, hTl]; simp; omega)
  simp only [Nat.zero_add, encZ, lLd, hL, bleS, Bool.true_and, need_t, o1, k1, r1, f1]
  have hG : l.length ≤ (fdL false [] (L ++ b)).length ∧ ((fdL false [] (L ++ b)).take l.length).map Ld.l = l.map Ld.l := by
    have : fdL false [] (L ++ b) = l.map ldZ ++ (fd b).1 := by show (fd ([] ++ (L ++ b))).1 = _; rw [List.nil_append, hfd]
    rw [this]
    refine ⟨by simp, ?_⟩
    have h2 : (l.map ldZ ++ (fd b).1).take l.length = l.map ldZ := by
      have : l.length = (l.map ldZ).length := by simp
      rw [this, List.take_append_of_le_length (Nat.le_refl _), List.take_length]
    rw [h2, map_ldZ]
  refine ⟨?_, fun p hp => ?_⟩
  · refine LoopJ.seen ?_ (loop_rule (IC (L ++ b) m.length) (fun s => FC2 l m c e s.2 s.1) (fun s => SC2 l b m s.2) (fun s => m.length + 1 - s.1) (fun s hs K hK => fc2_round hβ hm hm20 hbig (by omega) K hK hG s hs) (0, ⟨L ++ b, 0, (L ++ b).length, 1, fdB false [] (L ++ b), fdC false [] 1 (L ++ b), fdQ false [] (L ++ b), fdL false [] (L ++ b), [], 1, false, []⟩) ?_)
    · refine Seen.trans (Seen.void 1 (encL ([] : List U8))) (Seen.trans (Seen.objs (l2 := [some (rowO .still l), some (rowO .still b), some (rowO .still m), some (rowO .mine (L ++ b)), some (.cells [.slice (some ⟨5, 0, some 0⟩) (fdB false [] (L ++ b)).length (fdC false [] 1 (L ++ b)), .bool (fdQ false [] (L ++ b))] true 0), some (rowO .mine (fdB false [] (L ++ b))), some (rowO .mine (fdL false [] (L ++ b))), some (.cells [nilRow 8, .bool false] true 0), some (rowO .mine ([] : List U8))]) rfl fun q o2 h => ?_) (Seen.nilSlot (f' := FC2 l m c e ⟨L ++ b, 0, (L ++ b).length, 1, fdB false [] (L ++ b), fdC false [] 1 (L ++ b), fdQ false [] (L ++ b), fdL false [] (L ++ b), [], 1, false, []⟩ (0 : Nat)) 12 1 (encL ([] : List Ld)) rfl rfl rfl fun t v h => ?_))
      · match q, h with
        | 0, h => cases h; exact ⟨_, rfl, rfl, fun _ _ _ h => h⟩
        | 1, h => cases h; exact ⟨_, rfl, rfl, fun _ _ _ h => h⟩
        | 2, h => cases h; exact ⟨_, rfl, rfl, fun _ _ _ h => h⟩
        | 3, h => cases h; exact ⟨_, rfl, rfl, fun _ _ _ h => hR.obj _ _ _ h⟩
        | 4, h => cases h; exact ⟨_, rfl, rfl, fun _ _ _ h => h⟩
        | 5, h => cases h; exact ⟨_, rfl, rfl, fun _ _ _ h => h⟩
        | 6, h => cases h; exact ⟨_, rfl, rfl, fun _ _ _ h => h⟩
        | 7, h => cases h; exact ⟨_, rfl, rfl, fun _ _ _ h => ObjR.nilCell (j := 0) (k := 8) rfl h⟩
        | 8, h => cases h; exact ⟨_, rfl, rfl, fun _ _ _ h => h⟩
      · rcases mkFT_get _ _ t v h with h1 | h1
        · simp at h1
          rcases h1 with ⟨rfl, rfl⟩ | ⟨rfl, rfl⟩ | ⟨rfl, rfl⟩ | ⟨rfl, rfl⟩ | ⟨rfl, rfl⟩ | ⟨rfl, rfl⟩ | ⟨rfl, rfl⟩ | ⟨rfl, rfl⟩
          · exact .inr rfl
          · exact .inr rfl
          · exact .inr (by first | rfl | (rw [← hTl]; rfl))
          · exact .inr rfl
          · exact .inr rfl
          · exact .inr rfl
          · exact .inl ⟨rfl, rfl⟩
          · exact .inr rfl
        · cases h1
    · exact ⟨rfl, rfl, rfl, rfl, by show 0 + _ = _; rw [Nat.zero_add], rfl, rfl, rfl, by show 1 ≤ 1; omega, by show 1 ≤ 1; omega, Nat.zero_le _, fun h => by cases h⟩
  · obtain ⟨g1, g2, g3, g4, g5, g6, g7, g8⟩ := hp
    rw [← g1, ← g2, ← g3]
    have c1 : decide (Int.ofNat p.A.length < Int.ofNat l.length) = false := by
      refine decide_eq_false ?_
      rw [Int.ofNat_eq_natCast, Int.ofNat_eq_natCast]; omega
    have i0 : Int.toNat (Int.ofNat l.length) = l.length := Int.toNat_natCast _
    have B1 : (bytesU p.X == bytesU p.X) = true := by rw [bytesU_beq g8 g8]; exact sameU_self _
    have o2 := ok2_same (l := p.A) (m := p.A) (c := 1) (d := 1) g6 g6 g7 g7 (by omega) (by omega)
    have hz : (bif Nat.beq p.A.length 0 then 1 else 0) ≤ 1 := by cases Nat.beq p.A.length 0 <;> simp
    have htl : (p.A.take l.length).length = l.length := by rw [List.length_take]; omega
    have htok : (p.A.take l.length).all (okA Ld) = true := by
      rw [List.all_eq_true] at g6 ⊢
      exact fun x hx => g6 x (List.mem_of_mem_take hx)
    have l2 : ∀ c, listT Ld (Td.fr 1 l.length c (encL p.A)) = p.A.take l.length := fun c => decL_take p.A g4
    have o3 : ok2 Ld Ld (fun l x m x_1 => List.all l (okA Ld) && List.all m (okA Ld)) [Ta.cell (Td.fr 1 l.length (bif Nat.beq p.A.length 0 then 1 else 0) (encL p.A)), Ta.cell (Td.fr 1 l.length c (encL l))] = true := by
      show (okT Ld _ && okT Ld (tdL l c) && ((listT Ld _).all (okA Ld) && (listT Ld (tdL l c)).all (okA Ld))) = true
      have t1 : okT Ld (Td.fr 1 l.length (bif Nat.beq p.A.length 0 then 1 else 0) (encL p.A)) = true := by
        simp only [okT, Bool.or_eq_true, Bool.and_eq_true]
        refine .inl ⟨⟨⟨Nat.beq_refl _, ?_⟩, Nat.ble_eq_true_of_le hz⟩, Nat.ble_eq_true_of_le (by omega)⟩
        have := okL_take (l := p.A) g6 (k := 0) (n := l.length) (by omega)
        simpa only [Nat.zero_add] using this
      rw [t1, l2, htok, okT_tdL hok (by omega) hc, listT_tdL, hok]; rfl
    have s1 : sameLs (p.A.take l.length) l = true := (sameLs_eq _ _).2 g5
    have k4 : Nat.ble l.length p.A.length = true := Nat.ble_eq_true_of_le g4
    have qq : (p.q == p.q) = true := beq_self_eq_true _
    have nt : (!true) = false := rfl
    simp only [c1, br_f, qq, need_t, bytes_all, B1, nt, Nat.zero_add, Nat.sub_zero, encZ, bleS, Bool.true_and, allB_all, o2, lLd, sameLs_self, i0, k4, l2, o3, s1]
end Go.Proofs.Ytdmagcdkklacdaa.Ev
