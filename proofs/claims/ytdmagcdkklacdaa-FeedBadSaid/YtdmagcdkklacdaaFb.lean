/-
  FeedBad: what has to hold holds.
-/
import Derived.Test.YtdmagcdkklacdaaFbV
set_option linter.unusedVariables false
set_option linter.unusedSimpArgs false
set_option maxRecDepth 100000
namespace Go.Proofs.Ytdmagcdkklacdaa.Ev
open Go Go.Proofs Go.RowKit

theorem fb_round {l : List Ld} {b : List U8} {c d : Nat} {β : Bs} (hβ : β.X.length = 2) (hn6 : l.length ≤ 4) (K : Kt)
    (hK1 : l.all fit40 = true → K (.exit 0) (FB l b c d l.length) (SB l b)) (hK2 : K .ret (FBr true) (SB l b))
    (k : Nat) (hk : k ≤ l.length ∧ ∀ j, j < k → fit40 (l.getD j Enc.dflt) = true) :
    J Try.prog β (loopOf Try.prog 5 0) (FB l b c d k) (SB l b) (Nn β (fun k : Nat => k ≤ l.length ∧ ∀ j, j < k → fit40 (l.getD j Enc.dflt) = true) (fun k => l.length - k) (fun k : Nat => FB l b c d k) (fun _ => SB l b) k K) := by
  obtain ⟨hk, hfit⟩ := hk
  refine roundJ_ok (E := 2) (lvs := fun _ => slB) (un := fun _ => 0) (fuel := 100) (n := 20) (ex := fun _ _ => False) follows toldG_ok hβ (lv := lvB) ?_
  rw [vc_fb_r]
  by_cases hkn : k < l.length
  · have c1 : decide ((k : Int) < Int.ofNat l.length) = true := by simpa using hkn
    have i1 : decide ((0 : Int) ≤ (k : Int)) = true := by simp
    have i2 : Int.toNat (k : Int) = k := Int.toNat_natCast k
    have i3 : Nat.blt k l.length = true := by simpa using hkn
    have i4 : Nat.ble 0 k = true := by simp
    have hw : IntKind.wrap .i64 ((k : Int) + 1) = ((k + 1 : Nat) : Int) := w64 (by omega) (by omega)
    simp only [c1, i1, i2, i3, i4, Nat.zero_add, Bool.true_and, need_t, br_t, hw]
    refine br_of (fun _ => Nn.ret (Seen.refl _ _ _) hK2) (fun q1 => ?_)
    refine Nn.next (I := fun k : Nat => k ≤ l.length ∧ ∀ j, j < k → fit40 (l.getD j Enc.dflt) = true) (m := fun k => l.length - k) (F := fun k : Nat => FB l b c d k) (S := fun _ => SB l b) (p := k) (k + 1) ⟨hkn, fun j hj => ?_⟩ (by omega) (Seen.refl _ _ _)
    by_cases hjk : j < k
    · exact hfit j hjk
    · have : j = k := by omega
      subst this
      show (!(decide (Int.ofNat (l.getD j Enc.dflt).l.length > 40))) = true
      rw [q1]; rfl
  · have c1 : decide ((k : Int) < Int.ofNat l.length) = false := by simpa using hkn
    have hkn' : k = l.length := by omega
    simp only [c1, br_f]
    subst hkn'
    exact Nn.exit (Seen.refl _ _ _) (hK1 (fit_all hfit rfl))
theorem bad_law {l : List Ld} {b : List U8} {c d : Nat} (hc : c ≤ 1) (hd : d ≤ 1) (hl : ∀ a ∈ l, a.l.all (okA U8) = true ∧ a.c ≤ 1) (hb : b.all (okA U8) = true) (w : World) (args' : Array Value) (ha : PW (TR w (There w)) [tdL l c, tdL b d] args'.toList) :
    Calls Try.prog 5 args' w fun e w' => e = .returned (.bool true) ∧ Below w.heap.size w w' := by
  refine law_top (C := toldG) (fuel := 100) (n := 20) (un := fun _ => 0) (lvs := fun _ => slB) (ex := exB l b c d) follows toldG_ok (fun β hβ => ?_) w args' ha
  show lawE _ _ _ _ _ _ (cnOf 2 fun _ => slB) _ _ [.slice (some ⟨0, 0, some 0⟩) l.length c, .slice (some ⟨1, 0, some 0⟩) b.length d] (mkS [some (rowO .still l), some (rowO .still b)]) trueE
  rw [vc_fb]
  refine br_of (fun _ => trivial) (fun q1 => br_of (fun _ => trivial) (fun q2 => ⟨?_, fun hfit => ?_, trivial⟩))
  · have hl4 : l.length ≤ 4 := by simp at q1; omega
    exact loop_rule (fun k : Nat => k ≤ l.length ∧ ∀ j, j < k → fit40 (l.getD j Enc.dflt) = true) (fun k => FB l b c d k) (fun _ => SB l b) (fun k => l.length - k) (fun k hk K hK => fb_round hβ hl4 K hK.1 hK.2 k hk) 0 ⟨Nat.zero_le _, fun j hj => by omega⟩
  have hl4 : l.length ≤ 4 := by simp at q1; omega
  have hb60 : b.length ≤ 60 := by simp at q2; omega
  have h40 := fit40_le hfit
  have hok := all_fitLd hl h40 (by omega)
  have h200 : ∀ a ∈ l, a.l.length ≤ 200 := fun a ha => by have := h40 a ha; omega
  have hLl := loadsN_len l l.length
  have hLo := loadsN_ok hok (Nat.le_refl _)
  have hfd := fd_loads_all h200 (⟨255⟩ :: ⟨255⟩ :: b)
  rw [fd_255] at hfd
  generalize hL : loadsN l l.length = L at *
  have h255 : okA U8 ⟨255⟩ = true := rfl
  have hbig : List.all (L ++ [(⟨255⟩ : U8), ⟨255⟩] ++ b) (okA U8) = true := by simp [List.all_append, hLo, hb, h255]
  have hR : RowU (fun i k => mrgT (Nat.blt i (L.length + 2)) (mrgT (Nat.blt i L.length) (encL L i k) (selT 1 2 [Td.sc (.int .u8 255), Td.sc (.int .u8 255)] (i - L.length) k)) (encL b (i - (L.length + 2)) k)) (L.length + 2 + b.length) (L ++ [⟨255⟩, ⟨255⟩] ++ b) := ((RowU.enc L).app (RowU.sel2 255 255)).app (RowU.enc b)
  have hA : L ++ [⟨255⟩, ⟨255⟩] ++ b = L ++ (⟨255⟩ :: ⟨255⟩ :: b) := by simp
  have r1 := hR.list (c := 1)
  have r2 := hR.okT (c := 1) hbig (by omega) (by omega)
  have o1 := ok1_loads hok (by omega) hc
  have bad1 : (fd ([] ++ (L ++ [⟨255⟩, ⟨255⟩] ++ b))).2.2 = 2 := by rw [List.nil_append, hA, hfd]
  have q1' := fdQ_bad bad1
  have b1' := fdB_bad bad1
  have c1' := fdC_bad (c := 1) bad1
  have l1' : fdL false [] (L ++ [⟨255⟩, ⟨255⟩] ++ b) = l.map ldZ := by show (fd ([] ++ _)).1 = _; rw [List.nil_append, hA, hfd]; simp
  have k1 : Nat.ble (L.length + 2) 1000000 = true := Nat.ble_eq_true_of_le (by omega)
  have k2 : Nat.ble (L.length + 2 + b.length) 1000000 = true := Nat.ble_eq_true_of_le (by omega)
  have e1 : listT U8 (Td.fr 1 0 1 (encL ([] : List U8))) = [] := rfl
  have hzok : (l.map ldZ).all (okA Ld) = true := by
    rw [List.all_eq_true] at hok ⊢
    intro a ha
    obtain ⟨x, hx, rfl⟩ := List.mem_map.1 ha
    have := okA_ld_inv (hok x hx)
    exact okA_ld this.1 this.2.1 (by show 0 ≤ 1; omega)
  have o2 := ok2_same (l := l.map ldZ) (m := l) (c := 1) (d := c) hzok hok (by simp; omega) (by omega) (by omega) hc
  have s1 : sameLs (l.map ldZ) l = true := (sameLs_eq _ _).2 (map_ldZ l)
  have f1 := okFd_of (a := Td.fr 0 0 1 noT) (q := false) okT_nil0 rfl r2 (by rw [r1]; exact hbig) (by rw [r1, listT_nil0]; simp; omega)
  have f2 := okFd_of (a := Td.fr 1 0 1 (encL ([] : List U8))) (b := Td.fr 1 L.length 1 (encL L)) (q := true) rfl rfl (okT_enc hLo (by omega) (by omega)) (by rw [lU]; exact hLo) (by rw [lU, e1]; simp; omega)
  have bD : boolD (Td.sc (Value.bool true)) = true := rfl
  have z1 : fdQ true [] L = true := rfl
  have z2 : fdB true [] L = [] := rfl
  have z3 : fdL true [] L = [] := rfl
  have i0 : ((Int.ofNat 0 : Int) == 0) = true := rfl
  simp only [Nat.zero_add, encZ, lLd, hL, bleS, Bool.true_and, need_t, o1, k1, k2, r1, f1, q1', b1', c1', l1', e1, f2, bD, lU, z1, z2, z3, o2, s1, List.length_nil, beq_self_eq_true, i0]
end Go.Proofs.Ytdmagcdkklacdaa.Ev
