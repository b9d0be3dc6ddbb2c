/-
  veri.ways: told to the evaluator.
-/
import Derived.Test.YtbkbimmelmoohaaQ22
import Derived.Test.YtbkbimmelmoohaaQ23
set_option linter.unusedVariables false
set_option linter.unusedSimpArgs false
section
set_option maxRecDepth 100000
namespace Go.Proofs.Ytbkbimmelmoohaa.Ev
open Go Go.Proofs Go.RowKit
theorem ObjR.row_pre {ρ : Rho} {es n n' : Nat} {e e' : Nat → Nat → Td} {s : Spot} {w : World} (hn : n' ≤ n) (he : ∀ i, i < n' → ∀ j, j < es → e' i j = e i j) (h : ObjR ρ (.row .mine es 0 n e) s w) : ObjR ρ (.row .mine es 0 n' e') s w := by
 obtain ⟨k1, k2, k3, kz, k4⟩ := h
 refine ⟨k1, fun hv => by have := k2 hv; omega, fun ho => ?_, (fun h => by cases h), fun i h1 h2 j hj => ?_⟩
 ·obtain ⟨a1, a2, a3⟩ := k3 ho
  refine ⟨a1, a2, fun hv => ?_⟩
  obtain ⟨C, t, fr, b1, b2, b3, b4⟩ := a3 hv
  have := Nat.mul_le_mul_right es hn
  exact ⟨C, t, fr, b1, b2, b3, by omega⟩
 ·obtain ⟨y, y1, y2, y3⟩ := k4 i h1 (by omega) j hj
  exact ⟨y, y1, y2, by rw [he i h2 j hj]; exact y3⟩
theorem row_take {α : Type} [Enc α] {l : List α} {n : Nat} {ρ : Rho} {s : Spot} {w : World} (hn : n ≤ l.length) (h : ObjR ρ (.row .mine (Enc.es α) 0 l.length (encL l)) s w) : ObjR ρ (rowO .mine (l.take n)) s w := by
 have e : (l.take n).length = n := by rw [List.length_take]; omega
 refine ObjR.row_pre (by omega) (fun i hi j hj => ?_) h
 show Enc.enc ((l.take n).getD i Enc.dflt) j = Enc.enc (l.getD i Enc.dflt) j
 simp only [List.getD, List.getElem?_take, if_pos (show i < n by omega)]
theorem memW {L : List (Nat × Value)} {u : Nat} {v : Value} (h : (mkF 94 L).tmps.get u = some v) : (u, v) ∈ L := by
 rcases mkFT_get _ _ _ _ h with h1 | h1
 ·exact h1
 ·cases h1
def wys (hi : Int) (G : List Int) : List Wy := G.map fun g => ⟨g, hi⟩
def adT (s : VS) (T : List Wy) : VS := ⟨s.T ++ T, s.S, s.hs, s.fu, s.un⟩
theorem vr2_loop {l : List In} {c : Nat} {s : VS} {ct : Nat} {hi : Int} {G : List Int} {cg : Nat} {ex : Nat → Kt → Prop} {β : Bs} (hβ : β.X.length = 1) (hT : s.T.length ≤ 100000) (hG : G.length ≤ 2)
  (hex : ∀ K, ex 2 K → K (.exit 2) (FVr l c (adT s (wys hi G)) ct) (SVr l (adT s (wys hi G)))) :
  LoopJ Try.prog β ex 2 (loopOf Try.prog 22 2) (FV2 l c s ct hi G cg (0 : Nat)) (SV2 l s G) := by
 have h0 : adT s (wys hi (G.take 0)) = s := by
  show (⟨s.T ++ [], s.S, s.hs, s.fu, s.un⟩ : VS) = s
  rw [List.append_nil]
 have := loop_rule (P := Try.prog) (β := β) (ex := ex) (b := 2) (c := loopOf Try.prog 22 2) (fun k : Nat => k ≤ G.length) (fun k : Nat => FV2 l c (adT s (wys hi (G.take k))) ct hi G cg k) (fun k : Nat => SV2 l (adT s (wys hi (G.take k))) G) (fun k => G.length - k) (fun k hk K hK => ?_) 0 (Nat.zero_le _)
 ·rw [h0] at this; exact this
 ·refine roundJ_ok (E := 1) (lvs := lvsV) (un := fun _ => 0) (fuel := 100) (n := 20) (ex := fun _ _ => False) follows toldB4_ok hβ (lv := lvV2) ?_
  show roundJ Try.prog toldB4 100 20 β (fun _ => 0) (cnOf 1 lvsV) (fun _ _ => False) 22 2 1 lvV2 (FV2 l c ⟨s.T ++ wys hi (G.take k), s.S, s.hs, s.fu, s.un⟩ ct hi G cg k) (SV2 l ⟨s.T ++ wys hi (G.take k), s.S, s.hs, s.fu, s.un⟩ G) (Nn β (fun k : Nat => k ≤ G.length) (fun k => G.length - k) (fun k : Nat => FV2 l c (adT s (wys hi (G.take k))) ct hi G cg k) (fun k : Nat => SV2 l (adT s (wys hi (G.take k))) G) k K)
  rw [vc_vr2_r]
  by_cases hkn : k < G.length
  ·have c1 : decide ((k : Int) < Int.ofNat G.length) = true := by simpa using hkn
   have c2 : decide ((0 : Int) ≤ (k : Int)) = true := by simp
   have e0 : Int.toNat (k : Int) = k := Int.toNat_natCast k
   have c3 : Nat.blt k G.length = true := by simpa using hkn
   have c5 : ∀ a, Nat.ble 0 a = true := fun a => by simp
   have c6 : ∀ a, Nat.ble a a = true := fun a => by simp
   have hw : IntKind.wrap .i64 ((k : Int) + 1) = ((k + 1 : Nat) : Int) := w64 (by omega) (by omega)
   have hlen : (s.T ++ wys hi (G.take k)).length ≤ 100002 := by
    unfold wys
    rw [List.length_append, List.length_map, List.length_take]; omega
   have c7 : Nat.ble ((s.T ++ wys hi (G.take k)).length + 1) 1000000 = true := Nat.ble_eq_true_of_le (by omega)
   simp only [c1, c2, e0, Nat.zero_add, c3, c5, c6, c7, Bool.true_and, br_t, need_t, hw]
   have hnx : G.take (k + 1) = G.take k ++ [G.getD k 0] := by
    rw [List.take_add_one, List.getElem?_eq_getElem hkn]
    simp [List.getD, hkn]
   have hT' : s.T ++ wys hi (G.take (k + 1)) = (s.T ++ wys hi (G.take k)) ++ [⟨G.getD k 0, hi⟩] := by
    rw [hnx]
    unfold wys
    rw [List.map_append, List.append_assoc]; rfl
   refine Nn.next (I := fun k : Nat => k ≤ G.length) (m := fun k => G.length - k) (F := fun k : Nat => FV2 l c (adT s (wys hi (G.take k))) ct hi G cg k) (S := fun k : Nat => SV2 l (adT s (wys hi (G.take k))) G) (p := k) (k + 1) hkn (by omega) ?_
   show Seen β _ _ (FV2 l c ⟨s.T ++ wys hi (G.take (k + 1)), s.S, s.hs, s.fu, s.un⟩ ct hi G cg ((k + 1 : Nat) : Int)) (SV2 l ⟨s.T ++ wys hi (G.take (k + 1)), s.S, s.hs, s.fu, s.un⟩ G)
   rw [hT']
   generalize s.T ++ wys hi (G.take k) = T
   have hll : (T ++ [(⟨G.getD k 0, hi⟩ : Wy)]).length = T.length + 1 := by rw [List.length_append]; rfl
   unfold FV2
   rw [hll]
   refine Seen.objs rfl fun q o2 h => ?_
   match q, h with
   | 0, h => cases h; exact ⟨_, rfl, rfl, fun _ _ _ h => h⟩
   | 1, h => cases h; exact ⟨_, rfl, rfl, fun _ _ _ h => h⟩
   | 2, h => cases h; exact ⟨_, rfl, rfl, fun _ _ _ h => h⟩
   | 3, h =>
    cases h
    refine ⟨_, rfl, rfl, fun ρ s w h => row_app (α := Wy) (es := 2) (n := T.length) (g := fun i j => encL T i j) (a := ⟨G.getD k 0, hi⟩) (ts := [.sc (.int .i64 (G.getD k 0)), .sc (.int .i64 hi)]) rfl rfl (fun i j => rfl) (fun j hj => ?_) (by simpa only [Nat.zero_add] using h)⟩
    have hj : j < 2 := hj
    match j, hj with
    | 0, _ => rfl
    | 1, _ => rfl
   | 4, h => cases h; exact ⟨_, rfl, rfl, fun _ _ _ h => h⟩
  ·have c1 : decide ((k : Int) < Int.ofNat G.length) = false := by simpa using hkn
   have e : k = G.length := by omega
   subst e
   simp only [c1, br_f]
   refine Nn.exit (Seen.refl _ _ _) ?_
   have := hex K hK
   have ht : G.take G.length = G := List.take_length
   rw [ht]
   exact this
theorem vr2_seen0 {l : List In} {c : Nat} {s : VS} {ct : Nat} {hi : Int} {β : Bs} : Seen β (mkF 94 [(0, .slice (some ⟨0, 0, some 0⟩) l.length c), (2, .bool s.fu), (3, .bool s.un), (4, .map (some 1)), (5, .map (some 2)), (6, .slice (some ⟨3, 0, some 0⟩) s.T.length ct), (10, .int .i64 hi), (79, .slice none 0 0), (80, .int .i64 0), (81, .int .i64 0)]) (SVr l s) (FV2 l c s ct hi [] 1 (0 : Nat)) (SV2 l s []) := by
 refine Seen.nilSlot (f' := FV2 l c s ct hi [] 1 (0 : Nat)) 79 1 (encL ([] : List Int)) rfl rfl rfl fun u v h => ?_
 have h1 := memW h
 simp only [List.mem_cons, List.mem_nil_iff, or_false, Prod.mk.injEq] at h1
 rcases h1 with ⟨rfl, rfl⟩ | ⟨rfl, rfl⟩ | ⟨rfl, rfl⟩ | ⟨rfl, rfl⟩ | ⟨rfl, rfl⟩ | ⟨rfl, rfl⟩ | ⟨rfl, rfl⟩ | ⟨rfl, rfl⟩ | ⟨rfl, rfl⟩ | ⟨rfl, rfl⟩
 ·exact .inr rfl
 ·exact .inr rfl
 ·exact .inr rfl
 ·exact .inr rfl
 ·exact .inr rfl
 ·exact .inr rfl
 ·exact .inr rfl
 ·exact .inl ⟨rfl, rfl⟩
 ·exact .inr rfl
 ·exact .inr rfl
theorem vr2_seenN {l : List In} {c : Nat} {s : VS} {ct : Nat} {hi : Int} {G : List Int} {β : Bs} (hβ : β.X.length = 1) (h0 : 0 < G.length) : Seen β (mkF 94 [(0, .slice (some ⟨0, 0, some 0⟩) l.length c), (2, .bool s.fu), (3, .bool s.un), (4, .map (some 1)), (5, .map (some 2)), (6, .slice (some ⟨3, 0, some 0⟩) s.T.length ct), (10, .int .i64 hi), (79, .slice (some ⟨4, 0, none⟩) G.length G.length), (80, .int .i64 (Int.ofNat G.length)), (81, .int .i64 0)])
  (mkS [some (rowO .look l), some (.omap kkW .b (encS s.S)), some (.omap (.i .i64) (.i .i64) s.hs), some (rowO .mine s.T), some (.cells (G.map fun g => .int .i64 g) true 1)]) (FV2 l c s ct hi G G.length (0 : Nat)) (SV2 l s G) := by
 refine Seen.trans (Seen.cellsRow (f' := mkF 94 [(0, .slice (some ⟨0, 0, some 0⟩) l.length c), (2, .bool s.fu), (3, .bool s.un), (4, .map (some 1)), (5, .map (some 2)), (6, .slice (some ⟨3, 0, some 0⟩) s.T.length ct), (10, .int .i64 hi), (79, .slice (some ⟨5, 0, some 0⟩) G.length G.length), (80, .int .i64 (Int.ofNat G.length)), (81, .int .i64 0)]) 4 1 0 G.length G.length 79 (cs := G.map fun g => .int .i64 g) (ex := true) rfl (by rfl) ?_ (by rw [List.length_map]; omega) (Nat.le_refl _) h0 (encL G) (fun i hi j hj => ?_) rfl rfl (fun u v h => ?_)) (Seen.canon (E := 1) (slots := slV2) hβ (fun K => by kernel_rfl))
 ·rw [List.all_eq_true]
  intro x hx
  obtain ⟨g, _, rfl⟩ := List.mem_map.1 hx
  rfl
 ·have : j = 0 := by omega
  subst this
  refine ⟨.int .i64 (G.getD i 0), ?_, rfl⟩
  rw [show 0 + i * 1 + 0 = i by omega, List.getElem?_map, List.getElem?_eq_getElem hi]
  simp [List.getD, hi]
 ·have h1 := memW h
  simp only [List.mem_cons, List.mem_nil_iff, or_false, Prod.mk.injEq] at h1
  rcases h1 with ⟨rfl, rfl⟩ | ⟨rfl, rfl⟩ | ⟨rfl, rfl⟩ | ⟨rfl, rfl⟩ | ⟨rfl, rfl⟩ | ⟨rfl, rfl⟩ | ⟨rfl, rfl⟩ | ⟨rfl, rfl⟩ | ⟨rfl, rfl⟩ | ⟨rfl, rfl⟩
  ·exact .inr rfl
  ·exact .inr rfl
  ·exact .inr rfl
  ·exact .inr rfl
  ·exact .inr rfl
  ·exact .inr rfl
  ·exact .inr rfl
  ·exact .inl ⟨rfl, rfl⟩
  ·exact .inr rfl
  ·exact .inr rfl
theorem seen_take {l : List In} {c ct : Nat} {T : List Wy} {S : List Wy} {hs : Ez} {fu un : Bool} {β : Bs} (hT : T.length ≠ 0) : Seen β (mkF 94 [(0, .slice (some ⟨0, 0, some 0⟩) l.length c), (2, .bool fu), (3, .bool un), (4, .map (some 1)), (5, .map (some 2)), (6, .slice (some ⟨3, 0, some 0⟩) (T.length - 1) ct)])
  (mkS [some (.row .look 7 0 l.length (encL l)), some (.omap kkW .b (encS S)), some (.omap (.i .i64) (.i .i64) hs), some (.row .mine 2 0 T.length (encL T))]) (FVr l c ⟨T.take (T.length - 1), S, hs, fu, un⟩ ct) (SVr l ⟨T.take (T.length - 1), S, hs, fu, un⟩) := by
 have hl : (T.take (T.length - 1)).length = T.length - 1 := by rw [List.length_take]; omega
 unfold FVr
 simp only [hl]
 refine Seen.objs rfl fun q o2 h => ?_
 match q, h with
 | 0, h => cases h; exact ⟨_, rfl, rfl, fun _ _ _ h => h⟩
 | 1, h => cases h; exact ⟨_, rfl, rfl, fun _ _ _ h => h⟩
 | 2, h => cases h; exact ⟨_, rfl, rfl, fun _ _ _ h => h⟩
 | 3, h => cases h; exact ⟨_, rfl, rfl, fun ρ s w h => row_take (α := Wy) (by omega) h⟩
theorem vr2_at0 {l : List In} {c ct : Nat} {T S : List Wy} {hs : Ez} {fu un : Bool} {hi : Int} {ex : Nat → Kt → Prop} {β : Bs} (hβ : β.X.length = 1) (hT0 : T.length ≠ 0) (hT : T.length ≤ 100000)
  (hex : ∀ K, ex 2 K → K (.exit 2) (FVr l c ⟨T.take (T.length - 1), S, hs, fu, un⟩ ct) (SVr l ⟨T.take (T.length - 1), S, hs, fu, un⟩)) :
  LoopJ Try.prog β ex 2 (loopOf Try.prog 22 2) (mkF 94 [(0, .slice (some ⟨0, 0, some 0⟩) l.length c), (2, .bool fu), (3, .bool un), (4, .map (some 1)), (5, .map (some 2)), (6, .slice (some ⟨3, 0, some 0⟩) (T.length - 1) ct), (10, .int .i64 hi), (79, .slice none 0 0), (80, .int .i64 0), (81, .int .i64 0)])
   (mkS [some (.row .look 7 0 l.length (encL l)), some (.omap kkW .b (encS S)), some (.omap (.i .i64) (.i .i64) hs), some (.row .mine 2 0 T.length (encL T))]) := by
 have hl : (T.take (T.length - 1)).length = T.length - 1 := by rw [List.length_take]; omega
 refine LoopJ.seen (Seen.trans (Seen.objs (l2 := [some (rowO .look l), some (.omap kkW .b (encS S)), some (.omap (.i .i64) (.i .i64) hs), some (rowO .mine (T.take (T.length - 1)))]) rfl fun q o2 h => ?_) ?_) (vr2_loop (l := l) (c := c) (s := ⟨T.take (T.length - 1), S, hs, fu, un⟩) (ct := ct) (hi := hi) (G := []) (cg := 1) hβ (by show (T.take _).length ≤ _; omega) (by decide) fun K hK => ?_)
 ·match q, h with
  | 0, h => cases h; exact ⟨_, rfl, rfl, fun _ _ _ h => h⟩
  | 1, h => cases h; exact ⟨_, rfl, rfl, fun _ _ _ h => h⟩
  | 2, h => cases h; exact ⟨_, rfl, rfl, fun _ _ _ h => h⟩
  | 3, h => cases h; exact ⟨_, rfl, rfl, fun ρ s w h => row_take (α := Wy) (by omega) h⟩
 ·have := vr2_seen0 (l := l) (c := c) (s := ⟨T.take (T.length - 1), S, hs, fu, un⟩) (ct := ct) (hi := hi) (β := β)
  simp only [hl] at this
  exact this
 ·have := hex K hK
  have e : adT ⟨T.take (T.length - 1), S, hs, fu, un⟩ (wys hi []) = ⟨T.take (T.length - 1), S, hs, fu, un⟩ := by
   show (⟨_ ++ [], S, hs, fu, un⟩ : VS) = _
   rw [List.append_nil]
  rw [e]; exact this
theorem vr2_atN {l : List In} {c ct : Nat} {T S : List Wy} {hs : Ez} {fu un : Bool} {hi : Int} {G : List Int} {ex : Nat → Kt → Prop} {β : Bs} (hβ : β.X.length = 1) (hT0 : T.length ≠ 0) (hT : T.length ≤ 100000) (h0 : 0 < G.length) (h2 : G.length ≤ 2)
  (hex : ∀ K, ex 2 K → K (.exit 2) (FVr l c ⟨T.take (T.length - 1) ++ wys hi G, S, hs, fu, un⟩ ct) (SVr l ⟨T.take (T.length - 1) ++ wys hi G, S, hs, fu, un⟩)) :
  LoopJ Try.prog β ex 2 (loopOf Try.prog 22 2) (mkF 94 [(0, .slice (some ⟨0, 0, some 0⟩) l.length c), (2, .bool fu), (3, .bool un), (4, .map (some 1)), (5, .map (some 2)), (6, .slice (some ⟨3, 0, some 0⟩) (T.length - 1) ct), (10, .int .i64 hi), (79, .slice (some ⟨4, 0, none⟩) G.length G.length), (80, .int .i64 (Int.ofNat G.length)), (81, .int .i64 0)])
   (mkS [some (.row .look 7 0 l.length (encL l)), some (.omap kkW .b (encS S)), some (.omap (.i .i64) (.i .i64) hs), some (.row .mine 2 0 T.length (encL T)), some (.cells (G.map fun g => .int .i64 g) true 1)]) := by
 have hl : (T.take (T.length - 1)).length = T.length - 1 := by rw [List.length_take]; omega
 refine LoopJ.seen (Seen.trans (Seen.objs (l2 := [some (rowO .look l), some (.omap kkW .b (encS S)), some (.omap (.i .i64) (.i .i64) hs), some (rowO .mine (T.take (T.length - 1))), some (.cells (G.map fun g => .int .i64 g) true 1)]) rfl fun q o2 h => ?_) ?_) (vr2_loop (l := l) (c := c) (s := ⟨T.take (T.length - 1), S, hs, fu, un⟩) (ct := ct) (hi := hi) (G := G) (cg := G.length) hβ (by show (T.take _).length ≤ _; omega) h2 hex)
 ·match q, h with
  | 0, h => cases h; exact ⟨_, rfl, rfl, fun _ _ _ h => h⟩
  | 1, h => cases h; exact ⟨_, rfl, rfl, fun _ _ _ h => h⟩
  | 2, h => cases h; exact ⟨_, rfl, rfl, fun _ _ _ h => h⟩
  | 3, h => cases h; exact ⟨_, rfl, rfl, fun ρ s w h => row_take (α := Wy) (by omega) h⟩
  | 4, h => cases h; exact ⟨_, rfl, rfl, fun _ _ _ h => h⟩
 ·have := vr2_seenN (l := l) (c := c) (s := ⟨T.take (T.length - 1), S, hs, fu, un⟩) (ct := ct) (hi := hi) (β := β) hβ h0
  simp only [hl] at this
  exact this
theorem vr_round {l : List In} {c ct : Nat} {β : Bs} (hβ : β.X.length = 1) (hl : OkV l) (s : VS) (hI : VI l s) (hT : s.T.length ≤ 100000) (Nx : Kt)
  (hnx : s.T.length ≠ 0 → ∀ ct, ct ≤ 1 → ∀ f st, Seen β f st (FVr l c (vrS l s) ct) (SVr l (vrS l s)) → Nx .normal f st)
  (hex : s.T.length = 0 → Nx (.exit 0) (FVr l c s ct) (SVr l s)) :
  roundJ Try.prog toldB4 100 20 β (fun _ => 0) (cnOf 1 lvsV) (exV2 l c s) 22 0 1 lvVr (FVr l c s ct) (SVr l s) Nx := by
 obtain ⟨T, S, hs, fu, un⟩ := s
 have bT := hI.bT
 simp only at hT bT
 rw [vc_vr_r]
 by_cases h0 : T.length = 0
 ·have c1 : decide (Int.ofNat T.length > 0) = false := by rw [h0]; rfl
  simp only [c1, br_f]
  exact hex h0
 ·have c1 : decide (Int.ofNat T.length > 0) = true := decide_eq_true (by simp only [Int.ofNat_eq_natCast]; omega)
  have hnx := hnx h0
  have e1 : IntKind.wrap .i64 (Int.ofNat T.length - 1) = ((T.length - 1 : Nat) : Int) := by
   rw [Int.ofNat_eq_natCast, w64 (by omega) (by omega)]; omega
  have e2 : Int.toNat ((T.length - 1 : Nat) : Int) = T.length - 1 := Int.toNat_natCast _
  have d1 : decide ((0 : Int) ≤ ((T.length - 1 : Nat) : Int)) = true := decide_eq_true (by omega)
  have d2 : Nat.blt (T.length - 1) T.length = true := by simp; omega
  have d3 : ∀ a, Nat.ble 0 a = true := fun a => by simp
  have d4 : Nat.ble (T.length - 1) T.length = true := Nat.ble_eq_true_of_le (by omega)
  have z0 : Nat.beq T.length 0 = false := beq_false h0
  have hwm : T.getD (T.length - 1) Enc.dflt ∈ T := by
   have hlt : T.length - 1 < T.length := by omega
   simp [List.getD, hlt]
  have hB := bT _ hwm
  have hstep : vrS l ⟨T, S, hs, fu, un⟩ = cond (inS S (T.getD (T.length - 1) Enc.dflt)) ⟨T.take (T.length - 1), S, hs, fu, un⟩ (cond (decide ((T.getD (T.length - 1) Enc.dflt).h < tkI (l.getD (T.getD (T.length - 1) Enc.dflt).p.toNat Enc.dflt)) || decide (nhW (l.getD (T.getD (T.length - 1) Enc.dflt).p.toNat Enc.dflt) (T.getD (T.length - 1) Enc.dflt).h > 16)) ⟨T.take (T.length - 1), S ++ [T.getD (T.length - 1) Enc.dflt], hsN (T.getD (T.length - 1) Enc.dflt) hs, true, unN (T.getD (T.length - 1) Enc.dflt) hs un⟩
    ⟨T.take (T.length - 1) ++ sucI (l.getD (T.getD (T.length - 1) Enc.dflt).p.toNat Enc.dflt) (T.getD (T.length - 1) Enc.dflt).p (nhW (l.getD (T.getD (T.length - 1) Enc.dflt).p.toNat Enc.dflt) (T.getD (T.length - 1) Enc.dflt).h), S ++ [T.getD (T.length - 1) Enc.dflt], hsN (T.getD (T.length - 1) Enc.dflt) hs, fu, unN (T.getD (T.length - 1) Enc.dflt) hs un⟩) := by
   unfold vrS
   show cond (Nat.beq T.length 0) _ _ = _
   rw [z0]; rfl
  simp only [c1, e1, e2, d1, d2, d3, d4, z0, Nat.zero_add, Nat.sub_zero, Bool.and_self, br_t, need_t, cond_false]
  have key : ∀ ct' : Nat, ct' ≤ 1 → ∀ S' hs' fu' un', vrS l ⟨T, S, hs, fu, un⟩ = ⟨T.take (T.length - 1), S', hs', fu', un'⟩ → Nx .normal (mkF 94 [(0, .slice (some ⟨0, 0, some 0⟩) l.length c), (2, .bool fu'), (3, .bool un'), (4, .map (some 1)), (5, .map (some 2)), (6, .slice (some ⟨3, 0, some 0⟩) (T.length - 1) ct')])
    (mkS [some (.row .look 7 0 l.length (encL l)), some (.omap kkW .b (encS S')), some (.omap (.i .i64) (.i .i64) hs'), some (.row .mine 2 0 T.length (encL T))]) := fun ct' hct S' hs' fu' un' he => hnx ct' hct _ _ (by rw [he]; exact seen_take h0)
  generalize hw : T.getD (T.length - 1) Enc.dflt = w at *
  obtain ⟨b1, b2, b3, b4⟩ := hB
  have g1 : boolV (getK (.agg (Array.mk [.int .i64 w.p, .int .i64 w.h])) (.bool false) (encS S)) = inS S w := get_encS w S
  simp only [g1]
  refine br_of (fun q1 => ?_) (fun q1 => ?_)
  ·rw [q1] at hstep
   exact key 0 (by decide) S hs fu un hstep
  ·rw [q1, cond_false] at hstep
   have p1 : putK (.agg (Array.mk [.int .i64 w.p, .int .i64 w.h])) (.bool true) (encS S) = encS (S ++ [w]) := put_encS w S q1
   have i1 : decide ((0 : Int) ≤ w.p) = true := decide_eq_true b1
   have i3 : Nat.blt w.p.toNat l.length = true := by simp; omega
   simp only [p1, i1, i3, need_t]
   generalize l.getD w.p.toNat Enc.dflt = x at *
   cases un with
   | true =>
    simp only [br_t, br_f]
    refine br_of (fun q2 => ?_) (fun q2 => br_of (fun q3 => ?_) (fun q3 => ?_))
    ·exact key 0 (by decide) _ _ _ _ (by rw [hstep, show decide (w.h < tkI x) = true from q2]; rfl)
    ·exact key 0 (by decide) _ _ _ _ (by rw [hstep, show decide (w.h < tkI x) = false from q2, show decide (nhW x w.h > 16) = true from q3]; rfl)
    ·rw [show decide (w.h < tkI x) = false from q2, show decide (nhW x w.h > 16) = false from q3] at hstep
     simp only [Bool.or_self, cond_false] at hstep
     refine br_of (fun q4 => ?_) (fun q4 => br_of (fun q5 => ?_) (fun q5 => br_of (fun q6 => ?_) (fun q6 => ?_)))
     ·refine ⟨vr2_at0 hβ h0 hT fun K hK => ?_, fun ct' hct => hnx ct' hct _ _ (Seen.refl _ _ _)⟩
      have hK := hK 0 (by decide)
      have hsu : sucI x w.p (nhW x w.h) = [] := by unfold sucI; rw [q4]; rfl
      rw [hstep, hsu, List.append_nil] at hK
      exact hK
     ·refine ⟨vr2_atN (G := [x.a]) hβ h0 hT (by simp) (by simp) fun K hK => ?_, fun ct' hct => hnx ct' hct _ _ (Seen.refl _ _ _)⟩
      have hK := hK 0 (by decide)
      have hsu : sucI x w.p (nhW x w.h) = wys (nhW x w.h) [x.a] := by unfold sucI; rw [q4, q5]; rfl
      rw [hstep, hsu] at hK
      exact hK
     ·refine ⟨vr2_atN (G := [x.a, IntKind.wrap .i64 (w.p + 1)]) hβ h0 hT (by simp) (by simp) fun K hK => ?_, fun ct' hct => hnx ct' hct _ _ (Seen.refl _ _ _)⟩
      have hK := hK 0 (by decide)
      have hsu : sucI x w.p (nhW x w.h) = wys (nhW x w.h) [x.a, IntKind.wrap .i64 (w.p + 1)] := by unfold sucI; rw [q4, q5, q6]; rfl
      rw [hstep, hsu] at hK
      exact hK
     ·refine ⟨vr2_atN (G := [IntKind.wrap .i64 (w.p + 1)]) hβ h0 hT (by simp) (by simp) fun K hK => ?_, fun ct' hct => hnx ct' hct _ _ (Seen.refl _ _ _)⟩
      have hK := hK 0 (by decide)
      have hsu : sucI x w.p (nhW x w.h) = wys (nhW x w.h) [IntKind.wrap .i64 (w.p + 1)] := by unfold sucI; rw [q4, q5, q6]; rfl
      rw [hstep, hsu] at hK
      exact hK
   | false =>
    simp only [br_t, br_f]
    refine br_of (fun q2 => ?_) (fun q2 => br_of (fun q3 => ?_) (fun q3 => ?_))
    ·exact key 0 (by decide) _ _ _ _ (by rw [hstep, show decide (w.h < tkI x) = true from q2]; rfl)
    ·exact key 0 (by decide) _ _ _ _ (by rw [hstep, show decide (w.h < tkI x) = false from q2, show decide (nhW x w.h > 16) = true from q3]; rfl)
    ·rw [show decide (w.h < tkI x) = false from q2, show decide (nhW x w.h > 16) = false from q3] at hstep
     simp only [Bool.or_self, cond_false] at hstep
     refine br_of (fun q4 => ?_) (fun q4 => br_of (fun q5 => ?_) (fun q5 => br_of (fun q6 => ?_) (fun q6 => ?_)))
     ·refine ⟨vr2_at0 hβ h0 hT fun K hK => ?_, fun ct' hct => hnx ct' hct _ _ (Seen.refl _ _ _)⟩
      have hK := hK 0 (by decide)
      have hsu : sucI x w.p (nhW x w.h) = [] := by unfold sucI; rw [q4]; rfl
      rw [hstep, hsu, List.append_nil] at hK
      exact hK
     ·refine ⟨vr2_atN (G := [x.a]) hβ h0 hT (by simp) (by simp) fun K hK => ?_, fun ct' hct => hnx ct' hct _ _ (Seen.refl _ _ _)⟩
      have hK := hK 0 (by decide)
      have hsu : sucI x w.p (nhW x w.h) = wys (nhW x w.h) [x.a] := by unfold sucI; rw [q4, q5]; rfl
      rw [hstep, hsu] at hK
      exact hK
     ·refine ⟨vr2_atN (G := [x.a, IntKind.wrap .i64 (w.p + 1)]) hβ h0 hT (by simp) (by simp) fun K hK => ?_, fun ct' hct => hnx ct' hct _ _ (Seen.refl _ _ _)⟩
      have hK := hK 0 (by decide)
      have hsu : sucI x w.p (nhW x w.h) = wys (nhW x w.h) [x.a, IntKind.wrap .i64 (w.p + 1)] := by unfold sucI; rw [q4, q5, q6]; rfl
      rw [hstep, hsu] at hK
      exact hK
     ·refine ⟨vr2_atN (G := [IntKind.wrap .i64 (w.p + 1)]) hβ h0 hT (by simp) (by simp) fun K hK => ?_, fun ct' hct => hnx ct' hct _ _ (Seen.refl _ _ _)⟩
      have hK := hK 0 (by decide)
      have hsu : sucI x w.p (nhW x w.h) = wys (nhW x w.h) [IntKind.wrap .i64 (w.p + 1)] := by unfold sucI; rw [q4, q5, q6]; rfl
      rw [hstep, hsu] at hK
      exact hK
theorem vr_loop {l : List In} {c : Nat} {β : Bs} (hβ : β.X.length = 1) (hl : OkV l) : LoopJ Try.prog β (exVr l c) 0 (loopOf Try.prog 22 0) (FVr l c vr0 1) (SVr l vr0) := by
 have := loop_rule (P := Try.prog) (β := β) (ex := exVr l c) (b := 0) (c := loopOf Try.prog 22 0) (fun s : Nat × Nat => s.2 ≤ 1) (fun s : Nat × Nat => FVr l c (vrK l s.1) s.2) (fun s : Nat × Nat => SVr l (vrK l s.1)) (fun s => meas l (vrK l s.1)) (fun s hs K hK => ?_) (0, 1) (Nat.le_refl _)
 ·exact this
 ·obtain ⟨k, ct⟩ := s
  have hct : ct ≤ 1 := hs
  obtain ⟨hI, hm⟩ := vi_all hl k
  have hle := hl.le
  refine roundJ_ok (E := 1) (lvs := lvsV) (un := fun _ => 0) (fuel := 100) (n := 20) (ex := exV2 l c (vrK l k)) follows toldB4_ok hβ (lv := lvVr) ?_
  refine vr_round hβ hl (vrK l k) hI ?_ _ (fun h0 ct' hct' f st hsn => ?_) (fun h0 => ?_)
  ·rcases hm with h | h
   ·omega
   ·unfold meas vrN at h
    omega
  ·exact Nn.next (I := fun s : Nat × Nat => s.2 ≤ 1) (m := fun s : Nat × Nat => meas l (vrK l s.1)) (F := fun s : Nat × Nat => FVr l c (vrK l s.1) s.2) (S := fun s : Nat × Nat => SVr l (vrK l s.1)) (p := (k, ct)) (k + 1, ct') hct' (vi_step hl hI h0).2 hsn
  ·have e := vr_done hl h0
   refine Nn.exit (Seen.refl _ _ _) ?_
   have := hK ct hct
   rw [e] at this
   exact this
theorem vr_seen {l : List In} {c : Nat} {β : Bs} (hβ : β.X.length = 1) : Seen β (mkF 94 [(0, .slice (some ⟨0, 0, some 0⟩) l.length c), (2, .bool false), (3, .bool false), (4, .map (some 1)), (5, .map (some 2)), (6, .slice (some ⟨3, 0, none⟩) 1 1)])
  (mkS [some (.row .look 7 0 l.length (encL l)), some (.map [] 0), some (.map [] 0), some (.cells [.int .i64 0, .int .i64 0] true 2)]) (FVr l c vr0 1) (SVr l vr0) := by
 refine Seen.trans (Seen.cellsRow (f' := mkF 94 [(0, .slice (some ⟨0, 0, some 0⟩) l.length c), (2, .bool false), (3, .bool false), (4, .map (some 1)), (5, .map (some 2)), (6, .slice (some ⟨4, 0, some 0⟩) 1 1)]) 3 2 0 1 1 6 (cs := [.int .i64 0, .int .i64 0]) (ex := true) rfl (by rfl) rfl (by simp) (Nat.le_refl _) (by decide) (encL [(⟨0, 0⟩ : Wy)]) (fun i hi j hj => ?_) rfl rfl (fun u v h => ?_))
  (Seen.trans (Seen.objs (l2 := [some (.row .look 7 0 l.length (encL l)), some (.omap kkW .b []), some (.omap (.i .i64) (.i .i64) []), none, some (rowO .mine [(⟨0, 0⟩ : Wy)])]) rfl fun q o2 h => ?_) (Seen.canon (E := 1) (slots := slVr) hβ (fun K => by kernel_rfl)))
 ·have : i = 0 := by omega
  subst this
  match j, hj with
  | 0, _ => exact ⟨_, rfl, rfl⟩
  | 1, _ => exact ⟨_, rfl, rfl⟩
 ·have h1 := memW h
  simp only [List.mem_cons, List.mem_nil_iff, or_false, Prod.mk.injEq] at h1
  rcases h1 with ⟨rfl, rfl⟩ | ⟨rfl, rfl⟩ | ⟨rfl, rfl⟩ | ⟨rfl, rfl⟩ | ⟨rfl, rfl⟩ | ⟨rfl, rfl⟩
  ·exact .inr rfl
  ·exact .inr rfl
  ·exact .inr rfl
  ·exact .inr rfl
  ·exact .inr rfl
  ·exact .inl ⟨rfl, rfl⟩
 ·match q, h with
  | 0, h => cases h; exact ⟨_, rfl, rfl, fun _ _ _ h => h⟩
  | 1, h => cases h; exact ⟨_, rfl, rfl, fun _ _ _ h => h.openMap kkW .b⟩
  | 2, h => cases h; exact ⟨_, rfl, rfl, fun _ _ _ h => h.openMap (.i .i64) (.i .i64)⟩
  | 3, h => cases h
  | 4, h => cases h; exact ⟨_, rfl, rfl, fun _ _ _ h => h⟩
  | q + 5, h => simp at h
noncomputable def spV (args : List Value) (objs : List (Option AObj)) : Option SpT := match args, objs with
 | [.slice (some ⟨0, 0, some 0⟩) n c], [o0] =>
  some (.one ⟨rowB In n c o0 && okV (rowL In n o0), viM (rowL In n o0), .returned (.tuple (Array.mk [.bool (vrF (rowL In n o0)).fu, .bool (vrF (rowL In n o0)).un])), [.same], []⟩)
 | _, _ => none
theorem ways_told : EffOk Try.prog 22 (pickS spV) := by
 intro args objs s hs hb
 unfold pickS spV at hs
 split at hs
 ·rename_i n c o0
  simp only [Option.map_some, Option.some.injEq, SpT.pick] at hs
  subst hs
  have hb' := hb
  simp only [Bool.and_eq_true] at hb'
  obtain ⟨b1, b2⟩ := hb'
  obtain ⟨l1, m1, c1, v1⟩ := rowB_ok b1
  generalize hB : (rowB In n c o0 && okV (rowL In n o0)) = B at hb
  refine ⟨⟨rfl, fun i o h => ?_⟩, ?_⟩
  ·match i, h with
   | 0, h => cases h; obtain ⟨q, rfl, hq⟩ := v1; exact ⟨q, rfl, (fun h => by cases h), hq⟩
   | _ + 1, h => simp [viM] at h
  refine ⟨toldB4, 100, 20, fun _ => 0, lvsV, exVr (rowL In n o0) c, toldB4_ok, fun β hβ => ?_⟩
  generalize rowL In n o0 = l at *
  subst l1
  have hl := okV_iff.1 b2
  have hout : ∀ s : Sp, outR (effK s) = outK fun r l => ∃ l2, objsR l l2 ∧ effK s r (mkS l2) := fun s => rfl
  rw [hout]
  refine (vc_vr l c β _).mpr ?_
  refine ⟨LoopJ.seen (vr_seen hβ) (vr_loop hβ hl), fun ct hct => ⟨_, objsR.refl _, effK_none rfl (fun i o h => ?_) rfl⟩⟩
  match i, h with
  | 0, h => cases h
  | i + 1, h => cases h
 ·cases hs
noncomputable def toldB5 : Ev.Told := toldB4.effT 31 spI
theorem toldB5_ok : ToldS Try.prog toldB5 := Told.effT_ok follows toldB4_ok ix_told
noncomputable def toldB6 : Ev.Told := toldB5.effT 22 spV
theorem toldB6_ok : ToldS Try.prog toldB6 := Told.effT_ok follows toldB5_ok ways_told
end Go.Proofs.Ytbkbimmelmoohaa.Ev
end
section
namespace Go.Proofs.Ytbkbimmelmoohaa.Ev
open Go Go.Proofs Go.RowKit
def boolD (t : Td) : Bool := match t with | .sc (.bool b) => b | _ => false
def boolOk (t : Td) : Bool := match t with | .sc (.bool _) => true | _ => false
theorem boolOk_inv {t : Td} (h : boolOk t = true) : t = .sc (.bool (boolD t)) := by
 unfold boolOk at h
 split at h
 ·rfl
 ·cases h
instance encB : Enc Bool where
 es := 1
 enc a _ := .sc (.bool a)
 dec c := boolD (c 0)
 ok c := boolOk (c 0)
 dflt := false
 good c := boolOk (c 0) = true
 okgood c h := h
 law c h w F j y hj ht := by
  have : j = 0 := by omega
  subst this
  rw [boolOk_inv h] at ht; exact ht
 back a := rfl
 mrg a b w F j y hj := ⟨fun h => h, fun h => h⟩
def shB (_ : Nat) : Sh := .bool
theorem goodB (c : Nat → Td) (h : ∀ j, j < 1 → ShOk (shB j) (c j)) : Enc.good Bool c := by
 have h0 := h 0 (by omega)
 show boolOk (c 0) = true
 revert h0
 cases c 0 with
 | fr => intro h; exact h.elim
 | sc x =>
  cases x with
  | bool b => intro _; rfl
  | _ => intro h; exact h.elim
end Go.Proofs.Ytbkbimmelmoohaa.Ev
end
section
namespace Go.Proofs.Ytbkbimmelmoohaa.Ev
end Go.Proofs.Ytbkbimmelmoohaa.Ev
end
