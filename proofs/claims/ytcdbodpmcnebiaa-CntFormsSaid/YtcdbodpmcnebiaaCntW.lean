/-
  Contracts of package cnt: the small functions.
-/
import Derived.Test.YtcdbodpmcnebiaaVal
import Derived.Test.YtcdbodpmcnebiaaRecov
namespace Go.Proofs.Ytcdbodpmcnebiaa
open Go.RowKit

def truthI (b : Bool) : Int := if b then 1 else 0

set_option maxHeartbeats 400000 in
theorem truth_any (b : Bool) (w : World) : Calls Try.prog 22 #[.bool b] w fun e w' => e = .returned (.agg #[.int .i64 1, .int .i64 (truthI b), .float .f64 0]) ∧ Below w.heap.size w w' := by
  cases b
  · go_enter Try.func22, Try.ntmps22
    go_wp2
    exact bodyPost_ret (v := .agg #[.int .i64 1, .int .i64 0, .float .f64 0]) (by simp [results, Try.results22, go_sem]) rfl ⟨rfl, (by repeat (first | exact Below.refl _ _ | refine Below.setCell ?_ (by simp) _ | refine Below.alloc ?_ (by simp) _ | refine Below.drew ?_))⟩
  · go_enter Try.func22, Try.ntmps22
    go_wp2
    exact bodyPost_ret (v := .agg #[.int .i64 1, .int .i64 1, .float .f64 0]) (by simp [results, Try.results22, go_sem]) rfl ⟨rfl, (by repeat (first | exact Below.refl _ _ | refine Below.setCell ?_ (by simp) _ | refine Below.alloc ?_ (by simp) _ | refine Below.drew ?_))⟩

set_option maxHeartbeats 400000 in
theorem is_any (v : V) (k : Int) (w : World) : Calls Try.prog 27 #[.agg #[.int .i64 v.kind, .int .i64 v.i, .float .f64 v.f], .int .i64 k] w fun e w' => (e = .returned (.bool (v.kind == k))) ∧ Below w.heap.size w w' := by
  go_enter Try.func27, Try.ntmps27
  go_wp2
  go_ret
  exact ⟨rfl, (Below.refl _ _).alloc (Nat.le_refl _) _⟩

theorem kinds_succ (c : List V) (ks : List Int) (n : Nat) (hn : n < c.length) (hl : c.length = ks.length) : (c.take (n + 1)).map V.kind = ks.take (n + 1) ↔ (c.take n).map V.kind = ks.take n ∧ (c.getD n V0).kind = ks.getD n 0 := by
  have hn' : n < ks.length := by omega
  rw [List.take_succ_eq_append_getElem hn, List.take_succ_eq_append_getElem hn', List.map_append]
  simp only [List.getD, List.getElem?_eq_getElem hn, List.getElem?_eq_getElem hn', Option.getD_some]
  constructor
  · intro h
    have := List.append_inj h (by simp; omega)
    exact ⟨this.1, by simpa using this.2⟩
  · rintro ⟨h1, h2⟩
    rw [h1]; simp [h2]

set_option maxRecDepth 100000 in
set_option maxHeartbeats 1000000 in
theorem equal_any (x y : Value) (c : List V) (ks : List Int) (w : World) (hx : Vals w x c) (hy : Ints w y ks) :
    Calls Try.prog 26 #[x, y, .func (.func 27) #[] #[]] w fun e w' => e = .returned (.bool (decide (c.map V.kind = ks))) ∧ Below w.heap.size w w' := by
  obtain ⟨a, cap, rfl, hm, _, hc⟩ := hx.parts
  obtain ⟨a2, cap2, rfl, hm2, _, hc2⟩ := hy.parts
  unfold maxLen at hm hm2
  by_cases hl : c.length = ks.length
  · have d1 : ((c.length : Int) != (ks.length : Int)) = false := by simp; omega
    have HC := Lib.hid hc
    have HC2 := Lib.hid hc2
    have HL := Lib.hid hl
    have hl2 : c.length ≤ ks.length := by omega
    clear hc hc2 hx hy hl
    go_enter Try.func26, Try.ntmps26
    go_wp2
    go_loopw [17] (fun i wr => ∃ n : Nat, n ≤ c.length ∧ i = .int .i64 n ∧ (c.take n).map V.kind = ks.take n ∧ Below w.heap.size w wr) (fun i _ => c.length - (intOf i).toNat)
    case atStart => exact ⟨0, by omega, rfl, rfl, Below.refl _ _⟩
    case round =>
      obtain ⟨n, hn, rfl, hk, hbr⟩ := hrel
      have HK := Lib.hid hk
      clear hk d1
      by_cases hlt : n < c.length
      · obtain ⟨b, off, rfl, hbl, hcell⟩ := HC.out (by intro h; simp [h] at hlt)
        obtain ⟨b2, off2, rfl, hbl2, hcell2⟩ := HC2.out (by intro h; have h2 : ks.length = 0 := (congrArg List.length h).trans rfl; omega)
        obtain ⟨q1, q2, q3⟩ := hcell n hlt
        have q4 := hcell2 n (by omega)
        have c1 := (hbr.cell (p := ⟨b, off + n * 3, none⟩) hbl).trans q1
        have c2 := (hbr.cell (p := ⟨b, off + n * 3 + 1, none⟩) hbl).trans q2
        have c3 := (hbr.cell (p := ⟨b, off + n * 3 + 2, none⟩) hbl).trans q3
        have c4 := (hbr.cell (p := ⟨b2, off2 + n, none⟩) hbl2).trans q4
        have HS := Lib.hid (kinds_succ c ks n hlt HL.out)
        have HT : Hid (c.map V.kind = ks → (c.take (n + 1)).map V.kind = ks.take (n + 1)) := fun h => by rw [← h, List.map_take]
        clear q1 q2 q3 q4 hcell hcell2
        have hb3 := Nat.lt_of_lt_of_le hbl hbr.size
        have hb4 := Nat.lt_of_lt_of_le hbl2 hbr.size
        generalize c.getD n V0 = v at c1 c2 c3 HS
        generalize ks.getD n 0 = k at c4 HS
        by_cases hkk : v.kind = k
        · have d2 : (v.kind == k) = true := by simpa using hkk
          have HQ := Lib.hid hkk
          clear hkk
          go_wp2_with (go_at_call 27; refine (chain (w0 := w) (is_any v k _) (by repeat (first | assumption | exact Below.refl _ _ | apply Below_al | apply Below_dr | refine Below_st ?_ (by simp; omega) _))).mono ?_; rintro e w5 ⟨rfl, hb5⟩)
          exact ⟨⟨n + 1, by omega, by go_num, HS.out.2 ⟨HK.out, HQ.out⟩, hb5⟩, by simp [intOf]; omega⟩
        · have d2 : (v.kind == k) = false := by simpa using hkk
          have HQ := Lib.hid hkk
          clear hkk
          go_wp2_with (go_at_call 27; refine (chain (w0 := w) (is_any v k _) (by repeat (first | assumption | exact Below.refl _ _ | apply Below_al | apply Below_dr | refine Below_st ?_ (by simp; omega) _))).mono ?_; rintro e w5 ⟨rfl, hb5⟩)
          go_ret
          refine ⟨?_, hb5⟩
          have : ¬ c.map V.kind = ks := fun h => HQ.out (HS.out.1 (HT.out h)).2
          simp [this]
      · have hn2 : n = c.length := by omega
        have HN := Lib.hid hn2
        clear hn2
        go_wp2
        go_ret
        refine ⟨?_, hbr⟩
        have h1 := HK.out
        rw [HN.out, List.take_length, HL.out, List.take_length] at h1
        simp [h1]
  · have d1 : ((c.length : Int) != (ks.length : Int)) = true := by simp; omega
    have hne : ¬ c.map V.kind = ks := fun h => hl (by have := congrArg List.length h; simpa using this)
    have HN := Lib.hid hne
    clear hne hc hc2 hx hy hl
    go_enter Try.func26, Try.ntmps26
    go_wp2
    go_ret
    exact ⟨by simp [HN.out], Below.refl _ _⟩

def wrongE : Ending := .panicked [{ v := .iface 43 (.agg #[]), recovered := false }]

set_option maxHeartbeats 400000 in
theorem may_ok (x y : Value) (c : List V) (ks : List Int) (w : World) (hx : Vals w x c) (hy : Ints w y ks) (h : c.map V.kind = ks) :
    Calls Try.prog 21 #[x, y] w fun e w' => e = .returned (.tuple #[]) ∧ Below w.heap.size w w' := by
  have HE := Lib.hid (equal_any x y c ks w hx hy)
  rw [decide_eq_true h] at HE
  clear hx hy h
  go_enter Try.func21, Try.ntmps21
  go_wp2_with (go_at_call 26; refine HE.out.mono ?_; rintro e w5 ⟨rfl, hb5⟩)
  go_end0
  exact ⟨rfl, hb5⟩
set_option maxHeartbeats 400000 in
theorem may_not (x y : Value) (c : List V) (ks : List Int) (w : World) (hx : Vals w x c) (hy : Ints w y ks) (h : ¬ c.map V.kind = ks) :
    Calls Try.prog 21 #[x, y] w fun e w' => e = wrongE ∧ Below w.heap.size w w' := by
  have HE := Lib.hid (equal_any x y c ks w hx hy)
  rw [decide_eq_false h] at HE
  clear hx hy h
  go_enter Try.func21, Try.ntmps21
  go_wp2_with (go_at_call 26; refine HE.out.mono ?_; rintro e w5 ⟨rfl, hb5⟩)
  exact ⟨rfl, rfl, hb5⟩
end Go.Proofs.Ytcdbodpmcnebiaa
