/-
  InstApart: what has to hold holds.
-/
import Derived.Test.YtncndnlbiijdoaaInAV
set_option linter.unusedVariables false
set_option linter.unusedSimpArgs false
set_option maxRecDepth 100000
namespace Go.Proofs.Ytncndnlbiijdoaa.Ev
open Go Go.Proofs Go.RowKit

theorem ia1_round {l m : List In} {c d : Nat} {β : Bs} (hβ : β.X.length = 2) (hn6 : l.length ≤ 6) (K : Kt)
    (hK1 : l.all mayB = true → K (.exit 0) (FP1 l m c d l.length) (SP12 l m)) (hK2 : K .ret (FPr0 true) (SP12 l m))
    (k : Nat) (hk : k ≤ l.length ∧ ∀ j, j < k → mayB (l.getD j Enc.dflt) = true) :
    J Try.prog β (loopOf Try.prog 6 0) (FP1 l m c d k) (SP12 l m) (Nn β (fun k : Nat => k ≤ l.length ∧ ∀ j, j < k → mayB (l.getD j Enc.dflt) = true) (fun k => l.length - k) (fun k : Nat => FP1 l m c d k) (fun _ => SP12 l m) k K) := by
  obtain ⟨hk, hfit⟩ := hk
  refine roundJ_ok (E := 2) (lvs := lvsP) (un := fun _ => 0) (fuel := 100) (n := 20) (ex := fun _ _ => False) follows toldB9_ok hβ (lv := lvP1) ?_
  rw [vc_ia1_r]
  by_cases hkn : k < l.length
  · have c1 : decide ((k : Int) < Int.ofNat l.length) = true := by simpa using hkn
    have i1 : decide ((0 : Int) ≤ (k : Int)) = true := by simp
    have i2 : Int.toNat (k : Int) = k := Int.toNat_natCast k
    have i3 : Nat.blt k l.length = true := by simpa using hkn
    have i4 : Nat.ble 0 k = true := by simp
    have hw : IntKind.wrap .i64 ((k : Int) + 1) = ((k + 1 : Nat) : Int) := w64 (by omega) (by omega)
    have hx : ∀ x : In, (⟨x.op, x.kd, x.a, x.n, ⟨x.v.k, x.v.i, x.v.f⟩⟩ : In) = x := fun x => rfl
    simp only [c1, i1, i2, i3, i4, Nat.zero_add, Bool.true_and, need_t, br_t, hw, hx]
    refine br_of (fun _ => Nn.ret (Seen.refl _ _ _) hK2) (fun q1 => ?_)
    have q1 : mayB (l.getD k Enc.dflt) = true := by simpa using q1
    refine Nn.next (I := fun k : Nat => k ≤ l.length ∧ ∀ j, j < k → mayB (l.getD j Enc.dflt) = true) (m := fun k => l.length - k) (F := fun k : Nat => FP1 l m c d k) (S := fun _ => SP12 l m) (p := k) (k + 1) ⟨hkn, fun j hj => ?_⟩ (by omega) (Seen.refl _ _ _)
    by_cases hjk : j < k
    · exact hfit j hjk
    · have : j = k := by omega
      subst this; exact q1
  · have c1 : decide ((k : Int) < Int.ofNat l.length) = false := by simpa using hkn
    have hkn' : k = l.length := by omega
    simp only [c1, br_f]
    subst hkn'
    refine Nn.exit (Seen.refl _ _ _) (hK1 ?_)
    rw [List.all_eq_true]
    intro w hw
    obtain ⟨i, hi, rfl⟩ := List.mem_iff_getElem.1 hw
    have := hfit i hi
    simpa [List.getD, hi] using this
theorem ia2_round {l m : List In} {c d : Nat} {β : Bs} (hβ : β.X.length = 2) (hn6 : m.length ≤ 6) (K : Kt)
    (hK1 : m.all mayB = true → K (.exit 2) (FP2 l m c d m.length) (SP12 l m)) (hK2 : K .ret (FPr0 true) (SP12 l m))
    (k : Nat) (hk : k ≤ m.length ∧ ∀ j, j < k → mayB (m.getD j Enc.dflt) = true) :
    J Try.prog β (loopOf Try.prog 6 2) (FP2 l m c d k) (SP12 l m) (Nn β (fun k : Nat => k ≤ m.length ∧ ∀ j, j < k → mayB (m.getD j Enc.dflt) = true) (fun k => m.length - k) (fun k : Nat => FP2 l m c d k) (fun _ => SP12 l m) k K) := by
  obtain ⟨hk, hfit⟩ := hk
  refine roundJ_ok (E := 2) (lvs := lvsP) (un := fun _ => 0) (fuel := 100) (n := 20) (ex := fun _ _ => False) follows toldB9_ok hβ (lv := lvP2) ?_
  rw [vc_ia2_r]
  by_cases hkn : k < m.length
  · have c1 : decide ((k : Int) < Int.ofNat m.length) = true := by simpa using hkn
    have i1 : decide ((0 : Int) ≤ (k : Int)) = true := by simp
    have i2 : Int.toNat (k : Int) = k := Int.toNat_natCast k
    have i3 : Nat.blt k m.length = true := by simpa using hkn
    have i4 : Nat.ble 0 k = true := by simp
    have hw : IntKind.wrap .i64 ((k : Int) + 1) = ((k + 1 : Nat) : Int) := w64 (by omega) (by omega)
    have hx : ∀ x : In, (⟨x.op, x.kd, x.a, x.n, ⟨x.v.k, x.v.i, x.v.f⟩⟩ : In) = x := fun x => rfl
    simp only [c1, i1, i2, i3, i4, Nat.zero_add, Bool.true_and, need_t, br_t, hw, hx]
    refine br_of (fun _ => Nn.ret (Seen.refl _ _ _) hK2) (fun q1 => ?_)
    have q1 : mayB (m.getD k Enc.dflt) = true := by simpa using q1
    refine Nn.next (I := fun k : Nat => k ≤ m.length ∧ ∀ j, j < k → mayB (m.getD j Enc.dflt) = true) (m := fun k => m.length - k) (F := fun k : Nat => FP2 l m c d k) (S := fun _ => SP12 l m) (p := k) (k + 1) ⟨hkn, fun j hj => ?_⟩ (by omega) (Seen.refl _ _ _)
    by_cases hjk : j < k
    · exact hfit j hjk
    · have : j = k := by omega
      subst this; exact q1
  · have c1 : decide ((k : Int) < Int.ofNat m.length) = false := by simpa using hkn
    have hkn' : k = m.length := by omega
    simp only [c1, br_f]
    subst hkn'
    refine Nn.exit (Seen.refl _ _ _) (hK1 ?_)
    rw [List.all_eq_true]
    intro w hw
    obtain ⟨i, hi, rfl⟩ := List.mem_iff_getElem.1 hw
    have := hfit i hi
    simpa [List.getD, hi] using this
theorem ok1_in {l : List In} {c : Nat} (hok : l.all (okA In) = true) (hl : l.length ≤ 1000000) (hc : c ≤ 1) : ok1 In (fun l x => List.all l (okA In)) [Ta.cell (Td.fr 7 l.length c (encL l))] = true := by
  show (okT In (tdL l c) && (listT In (tdL l c)).all (okA In)) = true
  rw [okT_tdL hok hl hc, listT_tdL, hok]; rfl
theorem ok2_in {l m : List In} {c d : Nat} (hl : l.all (okA In) = true) (hm : m.all (okA In) = true) (h1 : l.length ≤ 1000000) (h2 : m.length ≤ 1000000) (hc : c ≤ 1) (hd : d ≤ 1) : ok2 In In (fun _ _ _ _ => true) [Ta.cell (Td.fr 7 l.length c (encL l)), Ta.cell (Td.fr 7 m.length d (encL m))] = true := by
  show (okT In (tdL l c) && okT In (tdL m d) && true) = true
  rw [okT_tdL hl h1 hc, okT_tdL hm h2 hd]; rfl
theorem ipL_ok (l : List In) : (ipL l).all (okA U8) = true := by
  unfold ipL
  cases ipG l with
  | true => exact putN_ok l _
  | false => rfl
theorem ipL_good {l : List In} (h : l.length ≤ 400) (h2 : l.all mayB = true) : ipL l = putN l l.length := by
  unfold ipL ipG; rw [decide_eq_true h, h2]; rfl
theorem apart_law {l m : List In} {c d : Nat} (hc : c ≤ 1) (hd : d ≤ 1) (hl : l.all (okA In) = true) (hm : m.all (okA In) = true) (w : World) (args' : Array Value) (ha : PW (TR w (There w)) [tdL l c, tdL m d] args'.toList) :
    Calls Try.prog 6 args' w fun e w' => e = .returned (.bool true) ∧ Below w.heap.size w w' := by
  refine law_top (C := toldB9) (fuel := 100) (n := 20) (un := fun _ => 0) (lvs := lvsP) (ex := exP12 l m c d) follows toldB9_ok (fun β hβ => ?_) w args' ha
  show lawE _ _ _ _ _ _ (cnOf 2 lvsP) _ _ [.slice (some ⟨0, 0, some 0⟩) l.length c, .slice (some ⟨1, 0, some 0⟩) m.length d] (mkS [some (rowO .still l), some (rowO .still m)]) trueE
  rw [vc_ia]
  refine br_of (fun _ => trivial) (fun q1 => br_of (fun _ => trivial) (fun q2 => ?_))
  have hl6 : l.length ≤ 6 := by simp at q1; omega
  have hm6 : m.length ≤ 6 := by simp at q2; omega
  refine ⟨loop_rule (fun k : Nat => k ≤ l.length ∧ ∀ j, j < k → mayB (l.getD j Enc.dflt) = true) (fun k => FP1 l m c d k) (fun _ => SP12 l m) (fun k => l.length - k) (fun k hk K hK => ia1_round hβ hl6 K hK.1 hK.2 k hk) 0 ⟨Nat.zero_le _, fun j hj => by omega⟩, fun h1 => ⟨loop_rule (fun k : Nat => k ≤ m.length ∧ ∀ j, j < k → mayB (m.getD j Enc.dflt) = true) (fun k => FP2 l m c d k) (fun _ => SP12 l m) (fun k => m.length - k) (fun k hk K hK => ia2_round hβ hm6 K hK.1 hK.2 k hk) 0 ⟨Nat.zero_le _, fun j hj => by omega⟩, fun h2 => ?_, trivial⟩, trivial⟩
  have o1 := ok1_in hl (by omega) hc
  have o2 := ok1_in hm (by omega) hd
  have o3 := ok2_in hl hm (by omega) (by omega) hc hd
  have e1 := ipL_good (l := l) (by omega) h1
  have e2 := ipL_good (l := m) (by omega) h2
  have B : (bytesU (putN l l.length) == bytesU (putN m m.length)) = sameIs l m := by
    rw [bytesU_beq (putN_ok l _) (putN_ok m _), Bool.eq_iff_iff, sameU_eq, sameP_iff]
    constructor
    · intro h
      exact (put_inj (r := []) (s := []) (by omega) (by omega) h1 h2 hl hm (by rw [h])).1
    · exact put_same
  have p2 := (putN_len l l.length).1
  have g2 : decide (Int.ofNat (putN l l.length).length ≥ 2) = true := decide_eq_true (by rw [Int.ofNat_eq_natCast]; omega)
  simp only [encZ, Nat.zero_add, bleS, Bool.true_and, need_t, o1, o2, o3, lIn, e1, e2, allB_all, bytes_all, B, beq_self_eq_true, g2]
end Go.Proofs.Ytncndnlbiijdoaa.Ev
