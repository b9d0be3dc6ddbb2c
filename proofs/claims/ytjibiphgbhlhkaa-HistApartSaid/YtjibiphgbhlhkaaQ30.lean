/-
  Made: told to the evaluator.
-/
import Derived.Test.YtjibiphgbhlhkaaQ29
import Derived.Test.YtjibiphgbhlhkaaQ26
set_option linter.unusedVariables false
set_option linter.unusedSimpArgs false
section
set_option maxRecDepth 100000
namespace Go.Proofs.Ytjibiphgbhlhkaa.Ev
open Go Go.Proofs Go.RowKit
theorem m64_rng {a b : Int} (h0 : 0 ≤ a) (h1 : a < 256) (hb : 0 < b) (hb2 : b ≤ 256) : 0 ≤ m64 a b ∧ m64 a b < b := by
 obtain ⟨r0, r1⟩ := tmod_rng h0 hb
 unfold m64
 rw [w64 (by omega) (by omega)]
 exact ⟨r0, r1⟩
theorem opE_ok {x : U4} (hx : okB4 x = true) (n : Nat) (w : Bool) : OpOk (opE x n w) := by
 obtain ⟨⟨xa0, xa1⟩, ⟨xb0, xb1⟩, ⟨xc0, xc1⟩, ⟨xd0, xd1⟩⟩ := (okB4_iff x).1 hx
 refine ⟨rfl, m64_rng xb0 xb1 (by decide) (by decide), m64_rng xc0 xc1 (by decide) (by decide), fun h => ?_⟩
 have h : w = true := h
 subst h; rfl
theorem InvM.mono {p : Md} {k : Nat} (h : InvM p k) : InvM p (k + 1) := ⟨h.m3, h.lD, h.lR, h.lP, h.ops, by have := h.lo; omega⟩
theorem inv_step {l : List U4} {wr : Bool} {p : Md} {k : Nat} (hb : l.all (okA U4) = true) (hk : k < l.length) (hI : InvM p k) : InvM (mdS l wr p k) (k + 1) := by
 have hx : okB4 (l.getD k Enc.dflt) = true := all_get' hb hk
 have hM := hI.mono
 obtain ⟨m3, lD, lR, lP, ops, lo1, lo2⟩ := hI
 unfold mdS
 generalize l.getD k Enc.dflt = x at hx ⊢
 cases t6 x == 0 with
 | true => exact ⟨by show (List.set _ _ _).length = 3; rw [List.length_set]; exact m3, lD, lR, lP, ops, by show _ ≤ p.late ∧ p.late ≤ _; omega⟩
 | false =>
  simp only [cond_false]
  cases t6 x == 1 || t6 x == 2 with
  | true =>
   simp only [cond_true]
   cases hc : decide (Int.ofNat p.P.length ≥ 8) || (t6 x == 1 && decide (p.late ≥ 3)) with
   | true => exact hM
   | false =>
    have h8 : p.P.length < 8 := by
     rw [Bool.or_eq_false_iff] at hc
     have := of_decide_eq_false hc.1
     simp only [Int.ofNat_eq_natCast] at this
     omega
    simp only [cond_false]
    refine ⟨m3, by simp [lD], by simp [lR], by simp; omega, fun e he => ?_, ?_⟩
    ·rcases List.mem_append.1 he with h | h
     ·exact ops e h
     ·rw [List.mem_singleton] at h
      rw [h]; exact opE_ok hx _ _
    ·cases t6 x == 1 with
     | true => show _ ≤ p.late + 1 ∧ p.late + 1 ≤ _; omega
     | false => show _ ≤ p.late ∧ p.late ≤ _; omega
  | false =>
   simp only [cond_false]
   cases p.P.length == 0 with
   | true => exact hM
   | false =>
    simp only [cond_false]
    cases t6 x == 3 || t6 x == 4 with
    | true =>
     simp only [cond_true]
     cases p.D.getD (kxN x p.P.length) Enc.dflt with
     | true => exact hM
     | false =>
      simp only [cond_false]
      refine ⟨?_, by simp [lD], by simp [lR], lP, ops, by show _ ≤ p.late ∧ p.late ≤ _; omega⟩
      show (efM _ p.m).length = 3
      unfold efM
      cases (p.P.getD (kxN x p.P.length) Enc.dflt).w with
      | true => rw [cond_true, List.length_set, List.length_set]; exact m3
      | false => exact m3
    | false =>
     simp only [cond_false]
     cases !p.D.getD (kxN x p.P.length) Enc.dflt || ((p.R.getD (kxN x p.P.length) Enc.dflt).l.length != 2) with
     | true => exact hM
     | false =>
      simp only [cond_false]
      refine ⟨m3, lD, by simp [lR], lP, ops, ?_⟩
      cases (p.P.getD (kxN x p.P.length) Enc.dflt).w with
      | true => show _ ≤ p.late - 1 ∧ p.late - 1 ≤ _; omega
      | false => show _ ≤ p.late ∧ p.late ≤ _; omega
theorem inv_0 : InvM md0 0 := ⟨rfl, rfl, rfl, by show 0 ≤ 8; omega, (fun e he => by cases he), ⟨by decide, by decide⟩⟩
theorem mdK_stop {l : List U4} {wr : Bool} {k : Nat} (h : ¬ (mdK l wr k).O.length < 36) : ∀ j, mdK l wr (k + j) = mdK l wr k ∧ mdN l wr (k + j) = mdN l wr k
 | 0 => ⟨rfl, rfl⟩
 | j + 1 => by
  obtain ⟨h1, h2⟩ := mdK_stop h j
  have hb : Nat.blt (mdK l wr (k + j)).O.length 36 = false := by rw [h1]; exact blt_false h
  have e1 : mdK l wr (k + (j + 1)) = cond (Nat.blt (mdK l wr (k + j)).O.length 36) (mdS l wr (mdK l wr (k + j)) (k + j)) (mdK l wr (k + j)) := rfl
  have e2 : mdN l wr (k + (j + 1)) = cond (Nat.blt (mdK l wr (k + j)).O.length 36) (k + j + 1) (mdN l wr (k + j)) := rfl
  rw [e1, e2, hb]
  exact ⟨h1, h2⟩
theorem md_loop {l : List U4} {c : Nat} {wr : Bool} {β : Bs} (hβ : β.X.length = 1) (hl : l.length ≤ 1000) (hb : l.all (okA U4) = true) : LoopJ Try.prog β (exMd l c wr) 2 (loopOf Try.prog 10 2) (FMp l c wr md0 (0 : Nat)) (SMp l md0) := by
 refine loop_rule (fun k : Nat => k ≤ l.length ∧ mdN l wr k = k ∧ InvM (mdK l wr k) k) (fun k => FMp l c wr (mdK l wr k) (k : Nat)) (fun k => SMp l (mdK l wr k)) (fun k => l.length - k) (fun k hk K hK => ?_) 0 ⟨Nat.zero_le _, rfl, inv_0⟩
 obtain ⟨hk, hN, hI⟩ := hk
 refine md_round hβ hl hb (mdK l wr k) k hk hI _ (fun p' f st hkn hO hp hs => ?_) (fun h => ?_)
 ·have hbl : Nat.blt (mdK l wr k).O.length 36 = true := by simpa using hO
  have h1 : mdK l wr (k + 1) = p' := by show cond _ _ _ = _; rw [hbl, cond_true, hp]
  have h2 : mdN l wr (k + 1) = k + 1 := by show cond _ _ _ = _; rw [hbl]; rfl
  refine Nn.next (I := fun k : Nat => k ≤ l.length ∧ mdN l wr k = k ∧ InvM (mdK l wr k) k) (m := fun k => l.length - k) (F := fun k : Nat => FMp l c wr (mdK l wr k) (k : Nat)) (S := fun k => SMp l (mdK l wr k)) (p := k) (k + 1) ⟨hkn, h2, ?_⟩ (by omega) (by rw [h1]; exact hs)
  rw [h1, ← hp]; exact inv_step hb hkn hI
 ·have he : mdK l wr l.length = mdK l wr k ∧ mdN l wr l.length = k := by
   rcases h with h | h
   ·subst h; exact ⟨rfl, hN⟩
   ·have := mdK_stop h (l.length - k)
    rw [show k + (l.length - k) = l.length by omega] at this
    exact ⟨this.1, this.2.trans hN⟩
  refine Nn.exit (Seen.refl _ _ _) ?_
  have hK : K (.exit 2) (FMp l c wr (mdK l wr l.length) (mdN l wr l.length)) (SMp l (mdK l wr l.length)) := hK
  rw [he.1, he.2] at hK
  exact hK
def cs9 : List Value := [.int .i64 2, .int .i64 0, .float .f64 0, .int .i64 2, .int .i64 0, .float .f64 0, .int .i64 2, .int .i64 0, .float .f64 0]
def cs8 : List Value := [.int .i64 3, .int .i64 0, .int .i64 0, .bool false, .int .i64 0, .slice none 0 0, .slice none 0 0, .slice (some ⟨3, 0, none⟩) 3 3]
def ts9 : List Td := [.sc (.int .i64 2), .sc (.int .i64 0), .sc (.float .f64 0), .sc (.int .i64 2), .sc (.int .i64 0), .sc (.float .f64 0), .sc (.int .i64 2), .sc (.int .i64 0), .sc (.float .f64 0)]
def ts8 : List Td := [.sc (.int .i64 3), .sc (.int .i64 0), .sc (.int .i64 0), .sc (.bool false), .sc (.int .i64 0), .fr 0 0 1 noT, .fr 0 0 1 noT, .fr 3 3 0 (selT 3 3 ts9)]
def memA (l : List U4) (m : List Vl) : List (Option AObj) := [some (.row .look 4 0 l.length (encL l)), none, some (.cells cs8 true 8), some (.cells cs9 false 3), some (.row .mine 3 0 3 (encL m))]
def stA (l : List U4) (m : List Vl) : ASt := ⟨6, (mkS (memA l m)).h.set 3 (some (.old cs9 false 3)), minN (mkS (memA l m)).lo 3⟩
theorem memA_toTs (l : List U4) (m : List Vl) : toTs (toT 4) cs8 (mkS (memA l m)) = .ok (ts8, stA l m) := by kernel_rfl
def memB (l : List U4) (m : List Vl) : List (Option AObj) := [some (.row .look 4 0 l.length (encL l)), none, none, some (.old cs9 false 3), some (.row .mine 3 0 3 (encL m)), none, some (.row .mine 8 0 1 (selT 8 1 ts8))]
theorem memB_get (l : List U4) (m : List Vl) (q : Nat) : (mkS (memB l m)).h.get q = upd (upd (stA l m).h.get 2 none) 6 (some (.row .mine 8 0 1 (selT 8 1 ts8))) q := by
 rw [mkS_get]
 unfold stA
 simp only [set_get]
 match q with
 | 0 => rfl
 | 1 => rfl
 | 2 => rfl
 | 3 => rfl
 | 4 => rfl
 | 5 => rfl
 | 6 => rfl
 | q + 7 =>
  rw [upd_ne _ _ (by omega), upd_ne _ _ (by omega), upd_ne _ _ (by omega), mkS_get]
  rfl
def m0 : List Vl := [vI 0, vI 0, vI 0]
theorem md_seen {l : List U4} {c : Nat} {wr : Bool} {β : Bs} (hβ : β.X.length = 1) : Seen β (mkF 292 [(0, .slice (some ⟨0, 0, some 0⟩) l.length c), (1, .bool wr), (5, .slice (some ⟨1, 0, none⟩) 3 3), (7, .slice (some ⟨2, 0, none⟩) 1 1), (8, .slice none 0 0), (9, .slice none 0 0), (10, .slice none 0 0), (11, .int .i64 0), (12, .int .i64 0)])
  (mkS [some (.row .look 4 0 l.length (encL l)), some (.cells cs9 true 3), some (.cells cs8 true 8), some (.cells cs9 false 3)]) (FMp l c wr md0 (0 : Nat)) (SMp l md0) := by
 have mem : ∀ {L : List (Nat × Value)} {u : Nat} {v : Value}, (mkF 292 L).tmps.get u = some v → (u, v) ∈ L := fun h => by
  rcases mkFT_get _ _ _ _ h with h1 | h1
  ·exact h1
  ·cases h1
 refine Seen.trans (Seen.cellsRow (f' := mkF 292 [(0, .slice (some ⟨0, 0, some 0⟩) l.length c), (1, .bool wr), (5, .slice (some ⟨4, 0, some 0⟩) 3 3), (7, .slice (some ⟨2, 0, none⟩) 1 1), (8, .slice none 0 0), (9, .slice none 0 0), (10, .slice none 0 0), (11, .int .i64 0), (12, .int .i64 0)]) 1 3 0 3 3 5 rfl (by rfl) rfl (by simp [cs9]) (by omega) (by omega) (encL m0) (fun i hi j hj => ?_) rfl rfl (fun u v h => ?_)) ?_
 ·match i, hi, j, hj with
  | 0, _, 0, _ | 0, _, 1, _ | 0, _, 2, _ | 1, _, 0, _ | 1, _, 1, _ | 1, _, 2, _ | 2, _, 0, _ | 2, _, 1, _ | 2, _, 2, _ => exact ⟨_, rfl, rfl⟩
 ·have h1 := mem h
  simp only [List.mem_cons, List.mem_nil_iff, or_false, Prod.mk.injEq] at h1
  rcases h1 with ⟨rfl, rfl⟩ | ⟨rfl, rfl⟩ | ⟨rfl, rfl⟩ | ⟨rfl, rfl⟩ | ⟨rfl, rfl⟩ | ⟨rfl, rfl⟩ | ⟨rfl, rfl⟩ | ⟨rfl, rfl⟩ | ⟨rfl, rfl⟩
  ·exact .inr rfl
  ·exact .inr rfl
  ·exact .inl ⟨rfl, rfl⟩
  ·exact .inr rfl
  ·exact .inr rfl
  ·exact .inr rfl
  ·exact .inr rfl
  ·exact .inr rfl
  ·exact .inr rfl
 refine Seen.trans (Seen.cellsRowT (f' := mkF 292 [(0, .slice (some ⟨0, 0, some 0⟩) l.length c), (1, .bool wr), (5, .slice (some ⟨4, 0, some 0⟩) 3 3), (7, .slice (some ⟨6, 0, some 0⟩) 1 1), (8, .slice none 0 0), (9, .slice none 0 0), (10, .slice none 0 0), (11, .int .i64 0), (12, .int .i64 0)]) (l := memA l m0) (l' := memB l m0) 2 8 1 1 7 (cs := cs8) (ex := true) rfl (by rfl) (memA_toTs l m0) (by rfl) (by simp [cs8]) (Nat.le_refl _) (by decide) rfl (memB_get l m0) rfl rfl (fun u v h => ?_)) ?_
 ·have h1 := mem h
  simp only [List.mem_cons, List.mem_nil_iff, or_false, Prod.mk.injEq] at h1
  rcases h1 with ⟨rfl, rfl⟩ | ⟨rfl, rfl⟩ | ⟨rfl, rfl⟩ | ⟨rfl, rfl⟩ | ⟨rfl, rfl⟩ | ⟨rfl, rfl⟩ | ⟨rfl, rfl⟩ | ⟨rfl, rfl⟩ | ⟨rfl, rfl⟩
  ·exact .inr rfl
  ·exact .inr rfl
  ·exact .inr rfl
  ·exact .inl ⟨rfl, rfl⟩
  ·exact .inr rfl
  ·exact .inr rfl
  ·exact .inr rfl
  ·exact .inr rfl
  ·exact .inr rfl
 refine Seen.trans (Seen.nilSlot (f' := mkF 292 [(0, .slice (some ⟨0, 0, some 0⟩) l.length c), (1, .bool wr), (5, .slice (some ⟨4, 0, some 0⟩) 3 3), (7, .slice (some ⟨6, 0, some 0⟩) 1 1), (8, nilRow 7), (9, .slice none 0 0), (10, .slice none 0 0), (11, .int .i64 0), (12, .int .i64 0)]) 8 8 (encL ([] : List Evt)) rfl rfl rfl fun u v h => ?_) ?_
 ·have h1 := mem h
  simp only [List.mem_cons, List.mem_nil_iff, or_false, Prod.mk.injEq] at h1
  rcases h1 with ⟨rfl, rfl⟩ | ⟨rfl, rfl⟩ | ⟨rfl, rfl⟩ | ⟨rfl, rfl⟩ | ⟨rfl, rfl⟩ | ⟨rfl, rfl⟩ | ⟨rfl, rfl⟩ | ⟨rfl, rfl⟩ | ⟨rfl, rfl⟩
  ·exact .inr rfl
  ·exact .inr rfl
  ·exact .inr rfl
  ·exact .inr rfl
  ·exact .inl ⟨rfl, rfl⟩
  ·exact .inr rfl
  ·exact .inr rfl
  ·exact .inr rfl
  ·exact .inr rfl
 refine Seen.trans (Seen.nilSlot (f' := mkF 292 [(0, .slice (some ⟨0, 0, some 0⟩) l.length c), (1, .bool wr), (5, .slice (some ⟨4, 0, some 0⟩) 3 3), (7, .slice (some ⟨6, 0, some 0⟩) 1 1), (8, nilRow 7), (9, nilRow 8), (10, .slice none 0 0), (11, .int .i64 0), (12, .int .i64 0)]) 9 1 (encL ([] : List Bool)) rfl rfl rfl fun u v h => ?_) ?_
 ·have h1 := mem h
  simp only [List.mem_cons, List.mem_nil_iff, or_false, Prod.mk.injEq] at h1
  rcases h1 with ⟨rfl, rfl⟩ | ⟨rfl, rfl⟩ | ⟨rfl, rfl⟩ | ⟨rfl, rfl⟩ | ⟨rfl, rfl⟩ | ⟨rfl, rfl⟩ | ⟨rfl, rfl⟩ | ⟨rfl, rfl⟩ | ⟨rfl, rfl⟩
  ·exact .inr rfl
  ·exact .inr rfl
  ·exact .inr rfl
  ·exact .inr rfl
  ·exact .inr rfl
  ·exact .inl ⟨rfl, rfl⟩
  ·exact .inr rfl
  ·exact .inr rfl
  ·exact .inr rfl
 refine Seen.trans (Seen.nilSlot (f' := mkF 292 [(0, .slice (some ⟨0, 0, some 0⟩) l.length c), (1, .bool wr), (5, .slice (some ⟨4, 0, some 0⟩) 3 3), (7, .slice (some ⟨6, 0, some 0⟩) 1 1), (8, nilRow 7), (9, nilRow 8), (10, nilRow 9), (11, .int .i64 0), (12, .int .i64 0)]) 10 1 (encL ([] : List Vs)) rfl rfl rfl fun u v h => ?_) ?_
 ·have h1 := mem h
  simp only [List.mem_cons, List.mem_nil_iff, or_false, Prod.mk.injEq] at h1
  rcases h1 with ⟨rfl, rfl⟩ | ⟨rfl, rfl⟩ | ⟨rfl, rfl⟩ | ⟨rfl, rfl⟩ | ⟨rfl, rfl⟩ | ⟨rfl, rfl⟩ | ⟨rfl, rfl⟩ | ⟨rfl, rfl⟩ | ⟨rfl, rfl⟩
  ·exact .inr rfl
  ·exact .inr rfl
  ·exact .inr rfl
  ·exact .inr rfl
  ·exact .inr rfl
  ·exact .inr rfl
  ·exact .inl ⟨rfl, rfl⟩
  ·exact .inr rfl
  ·exact .inr rfl
 refine Seen.trans (Seen.objs (l2 := [some (.row .look 4 0 l.length (encL l)), none, none, some (.old cs9 false 3), some (.row .mine 3 0 3 (encL m0)), none, some (.row .mine 8 0 1 (encL [boundE m0])), some (.row .mine 8 0 0 (encL ([] : List Evt))), some (.row .mine 1 0 0 (encL ([] : List Bool))), some (.row .mine 1 0 0 (encL ([] : List Vs)))]) rfl fun q o2 h => ?_) (Seen.canon (E := 1) (slots := slMd) hβ (fun K => by kernel_rfl))
 match q, h with
 | 0, h => cases h; exact ⟨_, rfl, rfl, fun _ _ _ h => h⟩
 | 1, h => cases h
 | 2, h => cases h
 | 3, h => cases h; exact ⟨_, rfl, rfl, fun _ _ _ h => h⟩
 | 4, h => cases h; exact ⟨_, rfl, rfl, fun _ _ _ h => h⟩
 | 5, h => cases h
 | 6, h =>
  cases h
  refine ⟨_, rfl, rfl, fun ρ s w h => h.row_TR (e' := encL [boundE m0]) rfl fun i _ hi j hj F y ht => ?_⟩
  have hi : i = 0 := by omega
  subst hi
  have sel : ToT (nthT ts8 j) (evtE (boundE m0) j) := by
   match j, hj with
   | 0, _ | 1, _ | 2, _ | 3, _ | 4, _ => exact ToT.eq rfl
   | 5, _ => exact ToT.nil rfl
   | 6, _ => exact ToT.nil rfl
   | 7, _ =>
    refine ToT.fr fun i hi j hj => ToT.eq ?_
    match i, hi, j, hj with
    | 0, _, 0, _ | 0, _, 1, _ | 0, _, 2, _ | 1, _, 0, _ | 1, _, 1, _ | 1, _, 2, _ | 2, _, 0, _ | 2, _, 1, _ | 2, _, 2, _ => rfl
  exact sel w F y ht
 | 7, h => cases h; exact ⟨_, rfl, rfl, fun _ _ _ h => h⟩
 | 8, h => cases h; exact ⟨_, rfl, rfl, fun _ _ _ h => h⟩
 | 9, h => cases h; exact ⟨_, rfl, rfl, fun _ _ _ h => h⟩
 | q + 10, h => simp at h
def made (l : List U4) (wr : Bool) : List Evt := (mdK l wr l.length).O
def mdOk (l : List U4) : Bool := Nat.ble l.length 60 && l.all okB4
def spMd (args : List Value) (objs : List (Option AObj)) : Option SpT := match args, objs with
 | [.slice (some ⟨0, 0, some 0⟩) n c, .bool wr], [o0] =>
  some (.one ⟨rowB U4 n c o0 && mdOk (rowL U4 n o0), [some (rowO .look (rowL U4 n o0))], .returned (.slice (some ⟨1, 0, some 0⟩) (made (rowL U4 n o0) wr).length 1), [.same], [rowO .mine (made (rowL U4 n o0) wr)]⟩)
 | _, _ => none
theorem made_told : EffOk Try.prog 10 (pickS spMd) := by
 intro args objs s hs hb
 unfold pickS spMd at hs
 split at hs
 ·rename_i n c wr o0
  simp only [Option.map_some, Option.some.injEq, SpT.pick] at hs
  subst hs
  have hb' := hb
  simp only [Bool.and_eq_true] at hb'
  obtain ⟨b1, b2⟩ := hb'
  obtain ⟨l1, m1, c1, v1⟩ := rowB_ok b1
  generalize hB : (rowB U4 n c o0 && mdOk (rowL U4 n o0)) = B at hb
  refine ⟨⟨rfl, fun i o h => ?_⟩, ?_⟩
  ·match i, h with
   | 0, h => cases h; obtain ⟨q, rfl, hq⟩ := v1; exact ⟨q, rfl, (fun h => by cases h), hq⟩
   | _ + 1, h => simp at h
  refine ⟨toldT, 100, 20, unM, fun _ => slMd, exMd (rowL U4 n o0) c wr, toldT_ok, fun β hβ => ?_⟩
  generalize rowL U4 n o0 = l at *
  subst l1
  unfold mdOk at b2
  rw [Bool.and_eq_true] at b2
  have hl := Nat.le_of_ble_eq_true b2.1
  have hout : ∀ s : Sp, outR (effK s) = outK fun r l => ∃ l2, objsR l l2 ∧ effK s r (mkS l2) := fun s => rfl
  rw [hout]
  refine (vc_md l c wr β _).mpr ?_
  refine ⟨LoopJ.seen (md_seen hβ) (md_loop hβ (by omega) b2.2), ?_⟩
  refine ⟨_, objsR.refl _, [2], rfl, by simp, by simp, rfl, fun i o h => ?_, fun j x o h h2 => ?_⟩
  ·match i, h with
   | 0, h => cases h
   | i + 1, h => simp at h
  ·match j, h, h2 with
   | 0, h, h2 => cases h; cases h2; rfl
   | j + 1, h, h2 => simp at h
 ·cases hs
end Go.Proofs.Ytjibiphgbhlhkaa.Ev
end
section
namespace Go.Proofs.Ytjibiphgbhlhkaa.Ev
open Go Go.Proofs Go.RowKit
def toldW : Ev.Told := (toldT.effT 9 spFt).effT 10 spMd
theorem toldW_ok : ToldS Try.prog toldW := Told.effT_ok follows (Told.effT_ok follows toldT_ok fitsH_told) made_told
end Go.Proofs.Ytjibiphgbhlhkaa.Ev
end
section
set_option maxRecDepth 1000000
namespace Go.Proofs.Ytjibiphgbhlhkaa.Ev
open Go Go.Proofs
def exN : Nat → Kt → Prop := fun _ _ => False
theorem vc_hr (l : List U4) (c : Nat) (β : Bs) : lawE Try.prog toldW 100 20 β (fun _ => 0) (cnOf 1 fun _ => []) exN 3 [.slice (some ⟨0, 0, some 0⟩) l.length c] (mkS [some (rowO .still l)]) trueE =
 (br (decide (Int.ofNat l.length > (60 : Int))) True (need (rowB U4 l.length c (some (.row .still 4 0 l.length (encL l))) && mdOk (rowL U4 l.length (some (.row .still 4 0 l.length (encL l))))) (need (rowB Evt (List.length (made (rowL U4 l.length (some (.row .still 4 0 l.length (encL l)))) false)) 1 (some (.row .mine 8 0 (List.length (made (rowL U4 l.length (some (.row .still 4 0 l.length (encL l)))) false)) (encL (made (rowL U4 l.length (some (.row .still 4 0 l.length (encL l)))) false)))) && fitOk (rowL Evt (List.length (made (rowL U4 l.length (some (.row .still 4 0 l.length (encL l)))) false)) (some (.row .mine 8 0 (List.length (made (rowL U4 l.length (some (.row .still 4 0 l.length (encL l)))) false)) (encL (made (rowL U4 l.length (some (.row .still 4 0 l.length (encL l)))) false)))))) (need (fitsB (rowL Evt (List.length (made (rowL U4 l.length (some (.row .still 4 0 l.length (encL l)))) false)) (some (.row .mine 8 0 (List.length (made (rowL U4 l.length (some (.row .still 4 0 l.length (encL l)))) false)) (encL (made (rowL U4 l.length (some (.row .still 4 0 l.length (encL l)))) false)))))) True)))) := by kernel_rfl
theorem vc_hl (l : List U4) (c : Nat) (wr : Bool) (u v : Int) (β : Bs) : lawE Try.prog toldW 100 20 β (fun _ => 0) (cnOf 1 fun _ => []) exN 4 [.slice (some ⟨0, 0, some 0⟩) l.length c, .bool wr, .int .u8 u, .int .u8 v] (mkS [some (rowO .still l)]) trueE =
 (br (decide (Int.ofNat l.length > (60 : Int))) True (need (rowB U4 l.length c (some (.row .still 4 0 l.length (encL l))) && mdOk (rowL U4 l.length (some (.row .still 4 0 l.length (encL l))))) (need (rowB Evt (List.length (made (rowL U4 l.length (some (.row .still 4 0 l.length (encL l)))) wr)) 1 (some (.row .mine 8 0 (List.length (made (rowL U4 l.length (some (.row .still 4 0 l.length (encL l)))) wr)) (encL (made (rowL U4 l.length (some (.row .still 4 0 l.length (encL l)))) wr)))) && fitOk (rowL Evt (List.length (made (rowL U4 l.length (some (.row .still 4 0 l.length (encL l)))) wr)) (some (.row .mine 8 0 (List.length (made (rowL U4 l.length (some (.row .still 4 0 l.length (encL l)))) wr)) (encL (made (rowL U4 l.length (some (.row .still 4 0 l.length (encL l)))) wr)))))) (br (!fitsB (rowL Evt (List.length (made (rowL U4 l.length (some (.row .still 4 0 l.length (encL l)))) wr)) (some (.row .mine 8 0 (List.length (made (rowL U4 l.length (some (.row .still 4 0 l.length (encL l)))) wr)) (encL (made (rowL U4 l.length (some (.row .still 4 0 l.length (encL l)))) wr)))))) True (need (true && !decide (Int.ofNat (List.length (made (rowL U4 l.length (some (.row .still 4 0 l.length (encL l)))) wr)) = (0 : Int))) (need (decide ((0 : Int) ≤ Int.tmod (IntKind.wrap .i64 v) (Int.ofNat (List.length (made (rowL U4 l.length (some (.row .still 4 0 l.length (encL l)))) wr))))) (need (Nat.ble (Int.toNat (Int.tmod (IntKind.wrap .i64 v) (Int.ofNat (List.length (made (rowL U4 l.length (some (.row .still 4 0 l.length (encL l)))) wr))))) (List.length (made (rowL U4 l.length (some (.row .still 4 0 l.length (encL l)))) wr))) (need (true && Nat.ble (0 + (Int.toNat (Int.tmod (IntKind.wrap .i64 v) (Int.ofNat (List.length (made (rowL U4 l.length (some (.row .still 4 0 l.length (encL l)))) wr)))) - 0)) (List.length (made (rowL U4 l.length (some (.row .still 4 0 l.length (encL l)))) wr))) (need (Nat.ble (0 + (Int.toNat (Int.tmod (IntKind.wrap .i64 v) (Int.ofNat (List.length (made (rowL U4 l.length (some (.row .still 4 0 l.length (encL l)))) wr)))) - 0)) 1000000) (need (decide ((0 : Int) ≤ IntKind.wrap .i64 (Int.tmod (IntKind.wrap .i64 v) (Int.ofNat (List.length (made (rowL U4 l.length (some (.row .still 4 0 l.length (encL l)))) wr))) + (1 : Int)))) (need (Nat.ble (Int.toNat (IntKind.wrap .i64 (Int.tmod (IntKind.wrap .i64 v) (Int.ofNat (List.length (made (rowL U4 l.length (some (.row .still 4 0 l.length (encL l)))) wr))) + (1 : Int)))) (List.length (made (rowL U4 l.length (some (.row .still 4 0 l.length (encL l)))) wr))) (need (Nat.ble 0 (0 + Int.toNat (IntKind.wrap .i64 (Int.tmod (IntKind.wrap .i64 v) (Int.ofNat (List.length (made (rowL U4 l.length (some (.row .still 4 0 l.length (encL l)))) wr))) + (1 : Int)))) && Nat.ble (0 + Int.toNat (IntKind.wrap .i64 (Int.tmod (IntKind.wrap .i64 v) (Int.ofNat (List.length (made (rowL U4 l.length (some (.row .still 4 0 l.length (encL l)))) wr))) + (1 : Int))) + (List.length (made (rowL U4 l.length (some (.row .still 4 0 l.length (encL l)))) wr) - Int.toNat (IntKind.wrap .i64 (Int.tmod (IntKind.wrap .i64 v) (Int.ofNat (List.length (made (rowL U4 l.length (some (.row .still 4 0 l.length (encL l)))) wr))) + (1 : Int))))) (List.length (made (rowL U4 l.length (some (.row .still 4 0 l.length (encL l)))) wr))) (need (Nat.ble (Int.toNat (Int.tmod (IntKind.wrap .i64 v) (Int.ofNat (List.length (made (rowL U4 l.length (some (.row .still 4 0 l.length (encL l)))) wr)))) - 0 + (List.length (made (rowL U4 l.length (some (.row .still 4 0 l.length (encL l)))) wr) - Int.toNat (IntKind.wrap .i64 (Int.tmod (IntKind.wrap .i64 v) (Int.ofNat (List.length (made (rowL U4 l.length (some (.row .still 4 0 l.length (encL l)))) wr))) + (1 : Int))))) 1000000) (need (true && Nat.ble (0 + (Int.toNat (Int.tmod (IntKind.wrap .i64 v) (Int.ofNat (List.length (made (rowL U4 l.length (some (.row .still 4 0 l.length (encL l)))) wr)))) - 0)) (Int.toNat (Int.tmod (IntKind.wrap .i64 v) (Int.ofNat (List.length (made (rowL U4 l.length (some (.row .still 4 0 l.length
 (encL l)))) wr)))) - 0)) (need (true && !decide (IntKind.wrap .i64 (Int.ofNat (List.length (made (rowL U4 l.length (some (.row .still 4 0 l.length (encL l)))) wr)) + (1 : Int)) = (0 : Int))) (need (decide ((0 : Int) ≤ Int.tmod (IntKind.wrap .i64 u) (IntKind.wrap .i64 (Int.ofNat (List.length (made (rowL U4 l.length (some (.row .still 4 0 l.length (encL l)))) wr)) + (1 : Int))))) (need (Nat.ble (Int.toNat (Int.tmod (IntKind.wrap .i64 u) (IntKind.wrap .i64 (Int.ofNat (List.length (made (rowL U4 l.length (some (.row .still 4 0 l.length (encL l)))) wr)) + (1 : Int))))) (List.length (made (rowL U4 l.length (some (.row .still 4 0 l.length (encL l)))) wr))) (need (rowB Evt (Int.toNat (Int.tmod (IntKind.wrap .i64 u) (IntKind.wrap .i64 (Int.ofNat (List.length (made (rowL U4 l.length (some (.row .still 4 0 l.length (encL l)))) wr)) + (1 : Int)))) - 0) (bif Nat.beq (List.length (made (rowL U4 l.length (some (.row .still 4 0 l.length (encL l)))) wr)) 0 then 1 else 0) (some (.row .mine 8 0 (List.length (made (rowL U4 l.length (some (.row .still 4 0 l.length (encL l)))) wr)) (encL (made (rowL U4 l.length (some (.row .still 4 0 l.length (encL l)))) wr)))) && fitOk (rowL Evt (Int.toNat (Int.tmod (IntKind.wrap .i64 u) (IntKind.wrap .i64 (Int.ofNat (List.length (made (rowL U4 l.length (some (.row .still 4 0 l.length (encL l)))) wr)) + (1 : Int)))) - 0) (some (.row .mine 8 0 (List.length (made (rowL U4 l.length (some (.row .still 4 0 l.length (encL l)))) wr)) (encL (made (rowL U4 l.length (some (.row .still 4 0 l.length (encL l)))) wr)))))) (need (fitsB (rowL Evt (Int.toNat (Int.tmod (IntKind.wrap .i64 u) (IntKind.wrap .i64 (Int.ofNat (List.length (made (rowL U4 l.length (some (.row .still 4 0 l.length (encL l)))) wr)) + (1 : Int)))) - 0) (some (.row .mine 8 0 (List.length (made (rowL U4 l.length (some (.row .still 4 0 l.length (encL l)))) wr)) (encL (made (rowL U4 l.length (some (.row .still 4 0 l.length (encL l)))) wr)))))) (need (decide ((0 : Int) ≤ Int.tmod (IntKind.wrap .i64 v) (Int.ofNat (List.length (made (rowL U4 l.length (some (.row .still 4 0 l.length (encL l)))) wr))))) (need (Nat.blt (Int.toNat (Int.tmod (IntKind.wrap .i64 v) (Int.ofNat (List.length (made (rowL U4 l.length (some (.row .still 4 0 l.length (encL l)))) wr))))) (List.length (made (rowL U4 l.length (some (.row .still 4 0 l.length (encL l)))) wr))) (need (Nat.ble 0 (0 + Int.toNat (Int.tmod (IntKind.wrap .i64 v) (Int.ofNat (List.length (made (rowL U4 l.length (some (.row .still 4 0 l.length (encL l)))) wr))))) && Nat.blt (0 + Int.toNat (Int.tmod (IntKind.wrap .i64 v) (Int.ofNat (List.length (made (rowL U4 l.length (some (.row .still 4 0 l.length (encL l)))) wr))))) (List.length (made (rowL U4 l.length (some (.row .still 4 0 l.length (encL l)))) wr))) (br (Evt.k (List.getD (made (rowL U4 l.length (some (.row .still 4 0 l.length (encL l)))) wr) (0 + Int.toNat (Int.tmod (IntKind.wrap .i64 v) (Int.ofNat (List.length (made (rowL U4 l.length (some (.row .still 4 0 l.length (encL l)))) wr))))) Enc.dflt) != (2 : Int)) True (need (decide ((0 : Int) ≤ Int.tmod (IntKind.wrap .i64 v) (Int.ofNat (List.length (made (rowL U4 l.length (some (.row .still 4 0 l.length (encL l)))) wr))))) (need (Nat.blt (Int.toNat (Int.tmod (IntKind.wrap .i64 v) (Int.ofNat (List.length (made (rowL U4 l.length (some (.row .still 4 0 l.length (encL l)))) wr))))) (List.length (made (rowL U4 l.length (some (.row .still 4 0 l.length (encL l)))) wr))) (need (Nat.ble 0 (0 + Int.toNat (Int.tmod (IntKind.wrap .i64 v) (Int.ofNat (List.length (made (rowL U4 l.length (some (.row .still 4 0 l.length (encL l)))) wr))))) && Nat.blt (0 + Int.toNat (Int.tmod (IntKind.wrap .i64 v) (Int.ofNat (List.length (made (rowL U4 l.length (some (.row .still 4 0 l.length (encL l)))) wr))))) (List.length (made (rowL U4 l.length (some (.row .still 4 0 l.length (encL l)))) wr))) (br (Int.ofNat (List.length (Evt.v (List.getD (made (rowL U4 l.length (some (.row .still 4 0 l.length (encL l)))) wr) (0 + Int.toNat (Int.tmod (IntKind.wrap .i64 v)
 (Int.ofNat (List.length (made (rowL U4 l.length (some (.row .still 4 0 l.length (encL l)))) wr))))) Enc.dflt))) == (0 : Int)) True (need (rowB Evt (Int.toNat (Int.tmod (IntKind.wrap .i64 v) (Int.ofNat (List.length (made (rowL U4 l.length (some (.row .still 4 0 l.length (encL l)))) wr)))) - 0 + (List.length (made (rowL U4 l.length (some (.row .still 4 0 l.length (encL l)))) wr) - Int.toNat (IntKind.wrap .i64 (Int.tmod (IntKind.wrap .i64 v) (Int.ofNat (List.length (made (rowL U4 l.length (some (.row .still 4 0 l.length (encL l)))) wr))) + (1 : Int))))) 0 (some (.row .mine 8 0 (Int.toNat (Int.tmod (IntKind.wrap .i64 v) (Int.ofNat (List.length (made (rowL U4 l.length (some (.row .still 4 0 l.length (encL l)))) wr)))) - 0 + (List.length (made (rowL U4 l.length (some (.row .still 4 0 l.length (encL l)))) wr) - Int.toNat (IntKind.wrap .i64 (Int.tmod (IntKind.wrap .i64 v) (Int.ofNat (List.length (made (rowL U4 l.length (some (.row .still 4 0 l.length (encL l)))) wr))) + (1 : Int))))) fun j k => mrgT (Nat.blt j (Int.toNat (Int.tmod (IntKind.wrap .i64 v) (Int.ofNat (List.length (made (rowL U4 l.length (some (.row .still 4 0 l.length (encL l)))) wr)))) - 0)) (encL (made (rowL U4 l.length (some (.row .still 4 0 l.length (encL l)))) wr) (0 + (0 + j)) k) (encL (made (rowL U4 l.length (some (.row .still 4 0 l.length (encL l)))) wr) (0 + Int.toNat (IntKind.wrap .i64 (Int.tmod (IntKind.wrap .i64 v) (Int.ofNat (List.length (made (rowL U4 l.length (some (.row .still 4 0 l.length (encL l)))) wr))) + (1 : Int))) + (j - (Int.toNat (Int.tmod (IntKind.wrap .i64 v) (Int.ofNat (List.length (made (rowL U4 l.length (some (.row .still 4 0 l.length (encL l)))) wr)))) - 0))) k))) && fitOk (rowL Evt (Int.toNat (Int.tmod (IntKind.wrap .i64 v) (Int.ofNat (List.length (made (rowL U4 l.length (some (.row .still 4 0 l.length (encL l)))) wr)))) - 0 + (List.length (made (rowL U4 l.length (some (.row .still 4 0 l.length (encL l)))) wr) - Int.toNat (IntKind.wrap .i64 (Int.tmod (IntKind.wrap .i64 v) (Int.ofNat (List.length (made (rowL U4 l.length (some (.row .still 4 0 l.length (encL l)))) wr))) + (1 : Int))))) (some (.row .mine 8 0 (Int.toNat (Int.tmod (IntKind.wrap .i64 v) (Int.ofNat (List.length (made (rowL U4 l.length (some (.row .still 4 0 l.length (encL l)))) wr)))) - 0 + (List.length (made (rowL U4 l.length (some (.row .still 4 0 l.length (encL l)))) wr) - Int.toNat (IntKind.wrap .i64 (Int.tmod (IntKind.wrap .i64 v) (Int.ofNat (List.length (made (rowL U4 l.length (some (.row .still 4 0 l.length (encL l)))) wr))) + (1 : Int))))) fun j k => mrgT (Nat.blt j (Int.toNat (Int.tmod (IntKind.wrap .i64 v) (Int.ofNat (List.length (made (rowL U4 l.length (some (.row .still 4 0 l.length (encL l)))) wr)))) - 0)) (encL (made (rowL U4 l.length (some (.row .still 4 0 l.length (encL l)))) wr) (0 + (0 + j)) k) (encL (made (rowL U4 l.length (some (.row .still 4 0 l.length (encL l)))) wr) (0 + Int.toNat (IntKind.wrap .i64 (Int.tmod (IntKind.wrap .i64 v) (Int.ofNat (List.length (made (rowL U4 l.length (some (.row .still 4 0 l.length (encL l)))) wr))) + (1 : Int))) + (j - (Int.toNat (Int.tmod (IntKind.wrap .i64 v) (Int.ofNat (List.length (made (rowL U4 l.length (some (.row .still 4 0 l.length (encL l)))) wr)))) - 0))) k))))) (need (fitsB (rowL Evt (Int.toNat (Int.tmod (IntKind.wrap .i64 v) (Int.ofNat (List.length (made (rowL U4 l.length (some (.row .still 4 0 l.length (encL l)))) wr)))) - 0 + (List.length (made (rowL U4 l.length (some (.row .still 4 0 l.length (encL l)))) wr) - Int.toNat (IntKind.wrap .i64 (Int.tmod (IntKind.wrap .i64 v) (Int.ofNat (List.length (made (rowL U4 l.length (some (.row .still 4 0 l.length (encL l)))) wr))) + (1 : Int))))) (some (.row .mine 8 0 (Int.toNat (Int.tmod (IntKind.wrap .i64 v) (Int.ofNat (List.length (made (rowL U4 l.length (some (.row .still 4 0 l.length (encL l)))) wr)))) - 0 + (List.length (made (rowL U4 l.length (some (.row .still 4 0 l.length (encL l)))) wr) - Int.toNat (IntKind.wrap .i64 (Int.tmod (IntKind.wrap .i64 v) (Int.ofNat
 (List.length (made (rowL U4 l.length (some (.row .still 4 0 l.length (encL l)))) wr))) + (1 : Int))))) fun j k => mrgT (Nat.blt j (Int.toNat (Int.tmod (IntKind.wrap .i64 v) (Int.ofNat (List.length (made (rowL U4 l.length (some (.row .still 4 0 l.length (encL l)))) wr)))) - 0)) (encL (made (rowL U4 l.length (some (.row .still 4 0 l.length (encL l)))) wr) (0 + (0 + j)) k) (encL (made (rowL U4 l.length (some (.row .still 4 0 l.length (encL l)))) wr) (0 + Int.toNat (IntKind.wrap .i64 (Int.tmod (IntKind.wrap .i64 v) (Int.ofNat (List.length (made (rowL U4 l.length (some (.row .still 4 0 l.length (encL l)))) wr))) + (1 : Int))) + (j - (Int.toNat (Int.tmod (IntKind.wrap .i64 v) (Int.ofNat (List.length (made (rowL U4 l.length (some (.row .still 4 0 l.length (encL l)))) wr)))) - 0))) k))))) True))))))))))))))))))))))))))))) := by kernel_rfl
end Go.Proofs.Ytjibiphgbhlhkaa.Ev
end
