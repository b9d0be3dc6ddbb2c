/-
  What has to hold: printed by the evaluator.
-/
import Derived.Test.YtdmagcdkklacdaaFrZ
set_option linter.unusedVariables false
/-! What has to hold: printed by the evaluator. -/
set_option linter.unusedVariables false
set_option maxRecDepth 1000000
namespace Go.Proofs.Ytdmagcdkklacdaa.Ev
open Go Go.Proofs
def slV : List Nat := [0, 1, 5]
def lvV : AX → List Nat := fun x => match x with
  | .ret => [4]
  | _ => slV
def FV (l m : List Ld) (c d : Nat) (i : Int) : AFr := mkF 28 [(0, .slice (some ⟨0, 0, some 0⟩) l.length c), (1, .slice (some ⟨1, 0, some 0⟩) m.length d), (5, .int .i64 i)]
def SV (l m : List Ld) : ASt := mkS [some (rowO .look l), some (rowO .look m)]
def FVr (q : Bool) : AFr := mkF 28 [(4, .bool q)]
def sameLd (a b : Ld) : Bool := sameU a.l b.l
def sameLs (l m : List Ld) : Bool := decide (l.length = m.length) && (List.range l.length).all fun i => sameLd (l.getD i Enc.dflt) (m.getD i Enc.dflt)
def exV (l m : List Ld) (c d : Nat) : Nat → Kt → Prop := fun b K => (sameLs l m = true → K (.exit b) (FV l m c d l.length) (SV l m)) ∧ (sameLs l m = false → K .ret (FVr false) (SV l m))
def shpV (l m : List Ld) (c d : Nat) (i' : Int) : AFr × ASt := (FV l m c d i', SV l m)
def shpW (l m : List Ld) (q' : Bool) : AFr × ASt := (FVr q', SV l m)
theorem vc_sl (l m : List Ld) (c d : Nat) (β : Bs) (K : AE → Prop) : lawE Try.prog toldQ 100 20 β (fun _ => 0) (cnOf 2 fun _ => slV) (exV l m c d) 12 [.slice (some ⟨0, 0, some 0⟩) l.length c, .slice (some ⟨1, 0, some 0⟩) m.length d] (mkS [some (rowO .look l), some (rowO .look m)]) (fun r _ => K r) =
(  br (Int.ofNat (List.length l) != Int.ofNat (List.length m)) (K (AE.returned (Value.bool false)))
  (LoopJ Try.prog β (exV l m c d) 0 (loopOf Try.prog 12 0) (FV l m c d (0 : Int)) (SV l m) ∧
  (sameLs l m = true → K (AE.returned (Value.bool true))) ∧ (sameLs l m = false → K (AE.returned (Value.bool false))))) := by kernel_rfl
theorem vc_sl_r (l m : List Ld) (c d : Nat) (i : Int) (β : Bs) (N : Kt) (ex : Nat → Kt → Prop) : roundJ Try.prog toldQ 100 20 β (fun _ => 0) (cnOf 2 fun _ => slV) ex 12 0 2 lvV (FV l m c d i) (SV l m) N =
(  br (decide (i < Int.ofNat (List.length l)))
  (need (decide ((0 : Int) ≤ i))
  (need (Nat.blt (Int.toNat i) (List.length l))
  (need (Nat.ble 0 (0 + Int.toNat i) && Nat.blt (0 + Int.toNat i) (List.length l))
  (need
  (true &&
  Nat.ble (0 + List.length (Ld.l (List.getD l (0 + Int.toNat i) Enc.dflt)))
  (List.length (Ld.l (List.getD l (0 + Int.toNat i) Enc.dflt))))
  (need
  (allB (List.length (Ld.l (List.getD l (0 + Int.toNat i) Enc.dflt))) fun j =>
  encL (Ld.l (List.getD l (0 + Int.toNat i) Enc.dflt)) (0 + j))
  (need (decide ((0 : Int) ≤ i))
  (need (Nat.blt (Int.toNat i) (List.length m))
  (need (Nat.ble 0 (0 + Int.toNat i) && Nat.blt (0 + Int.toNat i) (List.length m))
  (need
  (true &&
  Nat.ble (0 + List.length (Ld.l (List.getD m (0 + Int.toNat i) Enc.dflt)))
  (List.length (Ld.l (List.getD m (0 + Int.toNat i) Enc.dflt))))
  (need
  (allB (List.length (Ld.l (List.getD m (0 + Int.toNat i) Enc.dflt))) fun j =>
  encL (Ld.l (List.getD m (0 + Int.toNat i) Enc.dflt)) (0 + j))
  (br
  (!List.map
  (fun j =>
  byteF
  (encL (Ld.l (List.getD l (0 + Int.toNat i) Enc.dflt)) (0 + j)
  0))
  (List.range (List.length (Ld.l (List.getD l (0 + Int.toNat i) Enc.dflt)))) ==
  List.map
  (fun j =>
  byteF
  (encL (Ld.l (List.getD m (0 + Int.toNat i) Enc.dflt)) (0 + j)
  0))
  (List.range (List.length (Ld.l (List.getD m (0 + Int.toNat i) Enc.dflt)))))
  (onP N AX.ret (shpW l m false))
  (onP N AX.normal (shpV l m c d (IntKind.wrap IntKind.i64 (i + (1 : Int))))))))))))))))
  (onP N (AX.exit 0) (shpV l m c d i))) := by kernel_rfl
end Go.Proofs.Ytdmagcdkklacdaa.Ev

/-! What has to hold: printed by the evaluator. -/
set_option linter.unusedVariables false
set_option maxRecDepth 1000000
namespace Go.Proofs.Ytdmagcdkklacdaa.Ev
open Go Go.Proofs
def slL : List Nat := [0, 3, 4]
def lvL : AX → List Nat := fun x => slL
def FL (l : List Ld) (b : List U8) (c : Nat) (i : Int) : AFr := mkF 25 [(0, .slice (some ⟨0, 0, some 0⟩) l.length c), (3, .slice (some ⟨1, 0, some 0⟩) b.length 1), (4, .int .i64 i)]
def SL (l : List Ld) (b : List U8) : ASt := mkS [some (rowO .look l), some (rowO .mine b)]
def loadsN (l : List Ld) : Nat → List U8
  | 0 => []
  | k + 1 => loadsN l k ++ putL (l.getD k Enc.dflt).l
def exL (l : List Ld) (c : Nat) : Nat → Kt → Prop := fun b K => K (.exit b) (FL l (loadsN l l.length) c l.length) (SL l (loadsN l l.length))
theorem vc_ld (l : List Ld) (c : Nat) (β : Bs) (K : AE → ASt → Prop) : lawE Try.prog toldQ 100 20 β (fun _ => 0) (cnOf 1 fun _ => slL) (exL l c) 8 [.slice (some ⟨0, 0, some 0⟩) l.length c] (mkS [some (rowO .look l)]) K =
(  LoopJ Try.prog β (exL l c) 0 (loopOf Try.prog 8 0)
  (mkF 25
  [(0, Value.slice (some (Addr.mk 0 0 (some 0))) (List.length l) c),
  (3, Value.slice none 0 0), (4, Value.int IntKind.i64 (0 : Int))])
  (mkS [some (AObj.row Rk.look 1 0 (List.length l) (encL l))]) ∧
  K
  (AE.returned
  (Value.slice (some (Addr.mk 1 0 (some 0))) (List.length (loadsN l (List.length l)))
  1))
  (SL l (loadsN l (List.length l)))) := by kernel_rfl
theorem vc_ld_r (l : List Ld) (b : List U8) (c : Nat) (i : Int) (β : Bs) (N : Kt) (ex : Nat → Kt → Prop) : roundJ Try.prog toldQ 100 20 β (fun _ => 0) (cnOf 1 fun _ => slL) ex 8 0 1 lvL (FL l b c i) (SL l b) N =
(  br (decide (i < Int.ofNat (List.length l)))
  (need (decide ((0 : Int) ≤ i))
  (need (Nat.blt (Int.toNat i) (List.length l))
  (need (Nat.ble 0 (0 + Int.toNat i) && Nat.blt (0 + Int.toNat i) (List.length l))
  (need
  (true &&
  Nat.ble (0 + List.length (Ld.l (List.getD l (0 + Int.toNat i) Enc.dflt)))
  (List.length (Ld.l (List.getD l (0 + Int.toNat i) Enc.dflt))))
  (need
  (ok1 U8 (fun l x => List.all l (okA U8))
  [Ta.cell
  (Td.fr 1 (List.length (Ld.l (List.getD l (0 + Int.toNat i) Enc.dflt)))
  (Ld.c (List.getD l (0 + Int.toNat i) Enc.dflt)) fun i_1 =>
  encL (Ld.l (List.getD l (0 + Int.toNat i) Enc.dflt)) (0 + i_1))])
  (need
  (true &&
  Nat.ble
  (0 +
  List.length
  (putL
  (listT U8
  (Td.fr 1 (List.length (Ld.l (List.getD l (0 + Int.toNat i) Enc.dflt)))
  (Ld.c (List.getD l (0 + Int.toNat i) Enc.dflt)) fun i_1 =>
  encL (Ld.l (List.getD l (0 + Int.toNat i) Enc.dflt)) (0 + i_1)))))
  (List.length
  (putL
  (listT U8
  (Td.fr 1 (List.length (Ld.l (List.getD l (0 + Int.toNat i) Enc.dflt)))
  (Ld.c (List.getD l (0 + Int.toNat i) Enc.dflt)) fun i_1 =>
  encL (Ld.l (List.getD l (0 + Int.toNat i) Enc.dflt)) (0 + i_1))))))
  (need
  (Nat.ble
  (List.length b +
  List.length
  (putL
  (listT U8
  (Td.fr 1 (List.length (Ld.l (List.getD l (0 + Int.toNat i) Enc.dflt)))
  (Ld.c (List.getD l (0 + Int.toNat i) Enc.dflt)) fun i_1 =>
  encL (Ld.l (List.getD l (0 + Int.toNat i) Enc.dflt)) (0 + i_1)))))
  1000000)
  (need (true && Nat.ble (0 + List.length b) (List.length b))
  (N AX.normal
  (mkF 25
  [(0, Value.slice (some (Addr.mk 0 0 (some 0))) (List.length l) c),
  (3,
  Value.slice (some (Addr.mk 1 0 (some 0)))
  (List.length b +
  List.length
  (putL
  (listT U8
  (Td.fr 1
  (List.length (Ld.l (List.getD l (0 + Int.toNat i) Enc.dflt)))
  (Ld.c (List.getD l (0 + Int.toNat i) Enc.dflt)) fun i_1 =>
  encL (Ld.l (List.getD l (0 + Int.toNat i) Enc.dflt)) (0 + i_1)))))
  1),
  (4, Value.int IntKind.i64 (IntKind.wrap IntKind.i64 (i + (1 : Int))))])
  (mkS
  [some (AObj.row Rk.look 1 0 (List.length l) (encL l)),
  some
  (AObj.row Rk.mine 1 0
  (List.length b +
  List.length
  (putL
  (listT U8
  (Td.fr 1
  (List.length (Ld.l (List.getD l (0 + Int.toNat i) Enc.dflt)))
  (Ld.c (List.getD l (0 + Int.toNat i) Enc.dflt)) fun i_1 =>
  encL (Ld.l (List.getD l (0 + Int.toNat i) Enc.dflt)) (0 + i_1)))))
  fun j k =>
  mrgT (Nat.blt j (List.length b)) (encL b (0 + j) k)
  (encL
  (putL
  (listT U8
  (Td.fr 1
  (List.length (Ld.l (List.getD l (0 + Int.toNat i) Enc.dflt)))
  (Ld.c (List.getD l (0 + Int.toNat i) Enc.dflt)) fun i_1 =>
  encL (Ld.l (List.getD l (0 + Int.toNat i) Enc.dflt)) (0 + i_1))))
  (0 + (j - List.length b)) k))]))))))))))
  (N (AX.exit 0)
  (mkF 25
  [(0, Value.slice (some (Addr.mk 0 0 (some 0))) (List.length l) c),
  (3, Value.slice (some (Addr.mk 1 0 (some 0))) (List.length b) 1),
  (4, Value.int IntKind.i64 i)])
  (mkS
  [some (AObj.row Rk.look 1 0 (List.length l) (encL l)),
  some (AObj.row Rk.mine 1 0 (List.length b) (encL b))]))) := by kernel_rfl
end Go.Proofs.Ytdmagcdkklacdaa.Ev

/-! same: whether two rows of loads are the same; loads: frames one behind the other. -/
set_option linter.unusedVariables false
set_option linter.unusedSimpArgs false
namespace Go.Proofs.Ytdmagcdkklacdaa.Ev
open Go Go.Proofs Go.RowKit

theorem sameLs_iff (l m : List Ld) (h : l.length = m.length) : sameLs l m = true ↔ ∀ i, i < l.length → sameLd (l.getD i Enc.dflt) (m.getD i Enc.dflt) = true := by
  unfold sameLs
  rw [decide_eq_true h, Bool.true_and, List.all_eq_true]
  exact ⟨fun h j hj => h j (List.mem_range.2 hj), fun h j hj => h j (List.mem_range.1 hj)⟩
theorem sameLs_eq (l m : List Ld) : sameLs l m = true ↔ l.map Ld.l = m.map Ld.l := by
  constructor
  · intro h
    have hl : l.length = m.length := by
      unfold sameLs at h
      rw [Bool.and_eq_true] at h
      exact of_decide_eq_true h.1
    have h2 := (sameLs_iff l m hl).1 h
    apply List.ext_getElem (by simpa using hl)
    intro i h1 h3
    rw [List.length_map] at h1 h3
    have := h2 i h1
    simp only [List.getD, List.getElem?_eq_getElem h1, List.getElem?_eq_getElem h3, Option.getD_some] at this
    rw [List.getElem_map, List.getElem_map]
    exact (sameU_eq _ _).1 this
  · intro h
    have hl : l.length = m.length := by have := congrArg List.length h; simpa using this
    refine (sameLs_iff l m hl).2 fun i hi => (sameU_eq _ _).2 ?_
    have h1 : i < m.length := by omega
    have := congrArg (fun q => q[i]?) h
    simp only [List.getElem?_map, List.getElem?_eq_getElem hi, List.getElem?_eq_getElem h1, Option.map_some, Option.some.injEq] at this
    simp only [List.getD, List.getElem?_eq_getElem hi, List.getElem?_eq_getElem h1, Option.getD_some]
    exact this
theorem sameLs_self (l : List Ld) : sameLs l l = true := (sameLs_eq l l).2 rfl
theorem allLd_at {l : List Ld} (h : l.all (okA Ld) = true) {k : Nat} (hk : k < l.length) : okA Ld (l.getD k Enc.dflt) = true := by
  rw [List.all_eq_true] at h
  exact h _ (by simp [List.getD, hk])
theorem sl_round {l m : List Ld} {c d : Nat} {β : Bs} (hβ : β.X.length = 2) (hn : l.length = m.length) (hn6 : l.length ≤ 1000000) (hl : l.all (okA Ld) = true) (hm : m.all (okA Ld) = true) (K : Kt) (h1 : sameLs l m = true → K (.exit 0) (FV l m c d l.length) (SV l m)) (h2 : sameLs l m = false → K .ret (FVr false) (SV l m)) (k : Nat) (hk : k ≤ l.length ∧ ∀ j, j < k → sameLd (l.getD j Enc.dflt) (m.getD j Enc.dflt) = true) :
    J Try.prog β (loopOf Try.prog 12 0) (FV l m c d k) (SV l m) (Nn β (fun k : Nat => k ≤ l.length ∧ ∀ j, j < k → sameLd (l.getD j Enc.dflt) (m.getD j Enc.dflt) = true) (fun k => l.length - k) (fun k => FV l m c d k) (fun _ => SV l m) k K) := by
  refine roundJ_ok (E := 2) (lvs := fun _ => slV) (un := fun _ => 0) (fuel := 100) (n := 20) (ex := fun _ _ => False) follows toldQ_ok hβ (lv := lvV) ?_
  rw [vc_sl_r]
  by_cases hkn : k < l.length
  · have c1 : decide ((k : Int) < Int.ofNat l.length) = true := by simpa using hkn
    have c2 : decide ((0 : Int) ≤ (k : Int)) = true := by simp
    have e0 : Int.toNat (k : Int) = k := Int.toNat_natCast k
    have c3 : Nat.blt k l.length = true := by simpa using hkn
    have c4 : Nat.blt k m.length = true := by rw [← hn]; exact c3
    have c5 : Nat.ble 0 k = true := by simp
    have hw : IntKind.wrap .i64 ((k : Int) + 1) = ((k + 1 : Nat) : Int) := w64 (by omega) (by omega)
    have a1 := okA_ld_inv (allLd_at hl hkn)
    have a2 := okA_ld_inv (allLd_at hm (k := k) (by omega))
    have hbad : sameLd (l.getD k Enc.dflt) (m.getD k Enc.dflt) = false → onP (Nn β (fun k : Nat => k ≤ l.length ∧ ∀ j, j < k → sameLd (l.getD j Enc.dflt) (m.getD j Enc.dflt) = true) (fun k => l.length - k) (fun k => FV l m c d k) (fun _ => SV l m) k K) .ret (shpW l m false) := fun h =>
      Nn.ret (Seen.refl _ _ _) (h2 (by
        cases hq : sameLs l m with
        | false => rfl
        | true => have := (sameLs_iff l m hn).1 hq k hkn; rw [h] at this; cases this))
    have hgood : sameLd (l.getD k Enc.dflt) (m.getD k Enc.dflt) = true → onP (Nn β (fun k : Nat => k ≤ l.length ∧ ∀ j, j < k → sameLd (l.getD j Enc.dflt) (m.getD j Enc.dflt) = true) (fun k => l.length - k) (fun k => FV l m c d k) (fun _ => SV l m) k K) .normal (shpV l m c d ((k + 1 : Nat) : Int)) := fun h =>
      Nn.next (k + 1) ⟨hkn, fun j hj => by
        by_cases hjk : j < k
        · exact hk.2 j hjk
        · have : j = k := by omega
          subst this; exact h⟩ (by omega) (Seen.refl _ _ _)
    have B : (bytesU (l.getD k Enc.dflt).l == bytesU (m.getD k Enc.dflt).l) = sameLd (l.getD k Enc.dflt) (m.getD k Enc.dflt) := bytesU_beq a1.1 a2.1
    have hbe : ∀ x y : List UInt8, (!(x == y)) = !(x == y) := fun _ _ => rfl
    simp only [c1, c2, e0, Nat.zero_add, c3, c4, c5, Bool.true_and, br_t, need_t, hw, bleS, allB_all, bytes_all, B]
    refine br_of (fun q => hbad (by simpa using q)) (fun q => hgood (by simpa using q))
  · have c1 : decide ((k : Int) < Int.ofNat l.length) = false := by simpa using hkn
    have hkn' : k = l.length := by omega
    simp only [c1, br_f]
    subst hkn'
    exact Nn.exit (Seen.refl _ _ _) (h1 ((sameLs_iff l m hn).2 hk.2))
theorem sl_told : ToldW Try.prog 12 (ok2 Ld Ld fun l _ m _ => l.all (okA Ld) && m.all (okA Ld)) (ans2 Ld Ld fun l _ m _ => bAns (sameLs l m)) := by
  refine told2 follows fun l c m d hl hc hm hd hok => ⟨toldQ, 100, 20, fun _ => 0, fun _ => slV, exV l m c d, toldQ_ok, fun β hβ => ?_⟩
  rw [Bool.and_eq_true] at hok
  show lawE _ _ _ _ _ _ (cnOf 2 fun _ => slV) _ _ _ _ _
  have hK : ∀ b, sameLs l m = b → ansE (bAns (sameLs l m)) (.returned (.bool b)) st0 := fun b hb => by subst hb; exact bAns_ok _ _
  rw [bAns_any, vc_sl l m c d β fun r => ansE (bAns (sameLs l m)) r st0]
  refine br_of (fun h => ?_) (fun h => ⟨?_, fun h1 => hK true h1, fun h1 => hK false h1⟩)
  · have : ¬ l.length = m.length := by simp at h; omega
    exact hK false (by simp only [sameLs]; rw [decide_eq_false this, Bool.false_and])
  · have hn : l.length = m.length := by simp at h; omega
    exact loop_rule (fun k : Nat => k ≤ l.length ∧ ∀ j, j < k → sameLd (l.getD j Enc.dflt) (m.getD j Enc.dflt) = true) (fun k => FV l m c d k) (fun _ => SV l m) (fun k => l.length - k) (fun k hk K hK => sl_round hβ hn hl hok.1 hok.2 K hK.1 hK.2 k hk) 0 ⟨Nat.zero_le _, fun j hj => by omega⟩
/-! ### frames one behind the other -/
theorem putL_len (l : List U8) : (putL l).length ≤ 206 := by
  unfold putL; split
  · simp
  · rw [frameU_len]; omega
theorem putL_ok {l : List U8} (h : l.all (okA U8) = true) : (putL l).all (okA U8) = true := by
  unfold putL; split
  · rfl
  · exact frameU_ok h
theorem loadsN_len (l : List Ld) (k : Nat) : (loadsN l k).length ≤ 206 * k := by
  induction k with
  | zero => simp [loadsN]
  | succ k ih =>
    have := putL_len (l.getD k Enc.dflt).l
    simp only [loadsN, List.length_append]; omega
theorem loadsN_ok {l : List Ld} (h : l.all (okA Ld) = true) : ∀ {k : Nat}, k ≤ l.length → (loadsN l k).all (okA U8) = true := by
  intro k
  induction k with
  | zero => intro _; rfl
  | succ k ih =>
    intro hk
    simp only [loadsN, List.all_append]
    rw [ih (by omega), putL_ok (okA_ld_inv (allLd_at h (by omega))).1]; rfl
theorem ld_told : ToldW Try.prog 8 (ok1 Ld fun l _ => l.all (okA Ld) && Nat.ble l.length 1000) (ans1 Ld fun l _ => .ret (.cell (ownL (loadsN l l.length) 1))) := by
  refine told1 follows fun l c hl hc hok => ⟨toldQ, 100, 20, fun _ => 0, fun _ => slL, exL l c, toldQ_ok, fun β hβ => ?_⟩
  rw [Bool.and_eq_true] at hok
  obtain ⟨hok, hl3⟩ := hok
  have hl3 := Nat.le_of_ble_eq_true hl3
  show lawE _ _ _ _ _ _ (cnOf 1 fun _ => slL) _ _ _ _ _
  rw [vc_ld]
  refine ⟨LoopJ.seen (f1 := FL l (loadsN l 0) c (0 : Nat)) (st1 := SL l (loadsN l 0)) (Seen.nilSlot 3 1 (encL ([] : List U8)) rfl rfl rfl fun t v h => ?_) (loop_rule (fun k : Nat => k ≤ l.length) (fun k => FL l (loadsN l k) c k) (fun k => SL l (loadsN l k)) (fun k => l.length - k) (fun k hk K hK => ?_) 0 (Nat.zero_le _)), ?_⟩
  · rcases mkFT_get _ _ t v h with h1 | h1
    · simp at h1
      rcases h1 with ⟨rfl, rfl⟩ | ⟨rfl, rfl⟩ | ⟨rfl, rfl⟩
      · exact .inr rfl
      · exact .inl ⟨rfl, rfl⟩
      · exact .inr rfl
    · cases h1
  · show J _ β _ _ _ (Nn β (fun k : Nat => k ≤ l.length) (fun k => l.length - k) (fun k => FL l (loadsN l k) c k) (fun k => SL l (loadsN l k)) k K)
    have hK : K (.exit 0) (FL l (loadsN l l.length) c l.length) (SL l (loadsN l l.length)) := hK
    refine roundJ_ok (E := 1) (lvs := fun _ => slL) (un := fun _ => 0) (fuel := 100) (n := 20) (ex := fun _ _ => False) follows toldQ_ok hβ (lv := lvL) ?_
    rw [vc_ld_r]
    by_cases hkn : k < l.length
    · have c1 : decide ((k : Int) < Int.ofNat l.length) = true := by simpa using hkn
      have c2 : decide ((0 : Int) ≤ (k : Int)) = true := by simp
      have e0 : Int.toNat (k : Int) = k := Int.toNat_natCast k
      have c3 : Nat.blt k l.length = true := by simpa using hkn
      have c5 : Nat.ble 0 k = true := by simp
      have hw : IntKind.wrap .i64 ((k : Int) + 1) = ((k + 1 : Nat) : Int) := w64 (by omega) (by omega)
      obtain ⟨a1, a2, a3⟩ := okA_ld_inv (allLd_at hok hkn)
      have o1 := ok1U a1 a2 a3
      have hlen := loadsN_len l k
      have hp := putL_len (l.getD k Enc.dflt).l
      have c6 : Nat.ble ((loadsN l k).length + (putL (l.getD k Enc.dflt).l).length) 1000000 = true := Nat.ble_eq_true_of_le (by omega)
      simp only [c1, c2, e0, encZ, Nat.zero_add, c3, c5, Bool.true_and, br_t, need_t, hw, bleS, o1, lU, c6]
      refine Nn.next (I := fun k : Nat => k ≤ l.length) (m := fun k => l.length - k) (F := fun k : Nat => FL l (loadsN l k) c k) (S := fun k => SL l (loadsN l k)) (k + 1) hkn (by omega) ?_
      have hl2 : (loadsN l (k + 1)).length = (loadsN l k).length + (putL (l.getD k Enc.dflt).l).length := by simp [loadsN]
      have hF : FL l (loadsN l (k + 1)) c ((k + 1 : Nat) : Int) = mkF 25 [(0, .slice (some ⟨0, 0, some 0⟩) l.length c), (3, .slice (some ⟨1, 0, some 0⟩) ((loadsN l k).length + (putL (l.getD k Enc.dflt).l).length) 1), (4, .int .i64 ((k + 1 : Nat) : Int))] := by
        unfold FL; rw [hl2]
      rw [hF]
      have hR := (RowU.enc (loadsN l k)).app (RowU.enc (putL (l.getD k Enc.dflt).l))
      exact Seen.two rfl rfl (fun _ _ _ h => h) fun ρ s w h => hR.obj ρ s w h
    · have c1 : decide ((k : Int) < Int.ofNat l.length) = false := by simpa using hkn
      have hkn' : k = l.length := by omega
      simp only [c1, br_f]
      subst hkn'
      exact Nn.exit (Seen.refl _ _ _) hK
  · exact ⟨[1], .inr (.inl ⟨1, 0, 0, (loadsN l l.length).length, encL (loadsN l l.length), 1, rfl, rfl, fun _ => rfl, rfl, Nat.le_refl _, by omega, fun i hi j hj => by rw [Nat.zero_add]⟩), by simp⟩
end Go.Proofs.Ytdmagcdkklacdaa.Ev

/-! What has to hold: printed by the evaluator. -/
set_option linter.unusedVariables false
set_option maxRecDepth 1000000
namespace Go.Proofs.Ytdmagcdkklacdaa.Ev
open Go Go.Proofs
def lvFd : AX → List Nat := fun x => match x with
  | .panic _ => [4, 5]
  | _ => [4, 5, 6]
def dsFd : List ADef := [ADef.mk (Fn.func 16) [] [.pointer (some ⟨4, 0, none⟩), .pointer (some ⟨2, 0, none⟩), .pointer (some ⟨3, 0, none⟩)]]
def FFd : AFr := mkFD 23 [(4, .pointer (some ⟨2, 0, none⟩)), (5, .pointer (some ⟨3, 0, none⟩)), (6, .pointer (some ⟨4, 0, none⟩))] dsFd
def FFp : AFr := mkFD 23 [(4, .pointer (some ⟨2, 0, none⟩)), (5, .pointer (some ⟨3, 0, none⟩))] dsFd
def SFd (l m a : List U8) (k n c : Nat) (ls : List Ld) : ASt := mkS [some (rowO .look l), some (rowO .look m), some (.cells [.slice none 0 0, .bool false] true 0), some (.cells [.slice none 0 0] true 0), some (.cells [.slice (some ⟨5, 0, some k⟩) n c, .slice (some ⟨6, 0, some 0⟩) ls.length 1] true 0), some (rowO .mine a), some (rowO .mine ls)]
def doneV (b : Bool) : Value := .iface 56 (.agg ⟨[.bool b]⟩)
def kFd (a : List U8) : Nat := a.length - (fd a).2.1.length
def c0Fd (a : List U8) : Nat := if a.length = 0 then 1 else 0
def exFd (l m : List U8) : Nat → Kt → Prop := fun b K => ((fd (l ++ m)).2.2 = 2 → K (.panic (doneV true)) FFp (SFd l m (l ++ m) (kFd (l ++ m)) (fd (l ++ m)).2.1.length (c0Fd (l ++ m)) (fd (l ++ m)).1)) ∧ ((fd (l ++ m)).2.2 = 11 → K (.panic (doneV false)) FFp (SFd l m (l ++ m) (kFd (l ++ m)) (fd (l ++ m)).2.1.length (c0Fd (l ++ m)) (fd (l ++ m)).1))
theorem vc_fd (q : Bool) (l m : List U8) (c d : Nat) (β : Bs) (K : AE → List (Option AObj) → Prop) : lawE Try.prog toldQ 100 20 β (fun _ => 0) (cnOf 2 fun _ => [4, 5, 6]) (exFd l m) 9 [.agg ⟨[.slice (some ⟨0, 0, some 0⟩) l.length c, .bool q]⟩, .slice (some ⟨1, 0, some 0⟩) m.length d] (mkS [some (rowO .look l), some (rowO .look m)]) (outK K) =
(  br q
  (need (true && Nat.ble (0 + List.length l) (List.length l))
  (need (okC 1 [Ta.cell (Td.fr 1 (List.length l) c fun i => encL l (0 + i))])
  (K
  (AE.returned
  (Value.tuple
  (Array.mk
  [Value.agg
  (Array.mk
  [Value.slice (some (Addr.mk 6 0 (some 0))) (List.length l) c,
  Value.bool true]),
  Value.slice none 0 0])))
  [some (AObj.row Rk.look 1 0 (List.length l) (encL l)),
  some (AObj.row Rk.look 1 0 (List.length m) (encL m)),
  some
  (AObj.cells
  [Value.slice (some (Addr.mk 0 0 (some 0))) (List.length l) c, Value.bool q] true
  0),
  some
  (AObj.cells
  [Value.slice (some (Addr.mk 6 0 (some 0))) (List.length l) c, Value.bool true]
  true 0),
  some (AObj.cells [Value.slice none 0 0] true 0), none,
  some (AObj.row Rk.mine 1 0 (List.length l) fun i => encL l (0 + i))])))
  (br (decide (IntKind.wrap IntKind.i64 ((0 : Int) + Int.ofNat (List.length l)) < (0 : Int)))
  (K
  (AE.panicked
  (Value.iface 9
  (Value.string
  (ByteArray.mk
  #[(108 : UInt8), (101 : UInt8), (110 : UInt8), (32 : UInt8), (111 : UInt8), (117 : UInt8), (116 : UInt8),
  (32 : UInt8), (111 : UInt8), (102 : UInt8), (32 : UInt8), (114 : UInt8), (97 : UInt8), (110 : UInt8),
  (103 : UInt8), (101 : UInt8)]))))
  [some (AObj.row Rk.look 1 0 (List.length l) (encL l)),
  some (AObj.row Rk.look 1 0 (List.length m) (encL m)),
  some
  (AObj.cells
  [Value.slice (some (Addr.mk 0 0 (some 0))) (List.length l) c, Value.bool q] true
  0),
  some (AObj.cells [Value.slice none 0 0, Value.bool false] true 0),
  some (AObj.cells [Value.slice none 0 0] true 0),
  some
  (AObj.cells
  [Value.slice (some (Addr.mk 0 0 (some 0))) (List.length l) c,
  Value.slice (some (Addr.mk 1 0 (some 0))) (List.length m) d]
  true 1)])
  (br
  (decide
  (IntKind.wrap IntKind.i64
  (IntKind.wrap IntKind.i64 ((0 : Int) + Int.ofNat (List.length l)) + Int.ofNat (List.length m)) <
  (0 : Int)))
  (K
  (AE.panicked
  (Value.iface 9
  (Value.string
  (ByteArray.mk
  #[(108 : UInt8), (101 : UInt8), (110 : UInt8), (32 : UInt8), (111 : UInt8), (117 : UInt8),
  (116 : UInt8), (32 : UInt8), (111 : UInt8), (102 : UInt8), (32 : UInt8), (114 : UInt8), (97 : UInt8),
  (110 : UInt8), (103 : UInt8), (101 : UInt8)]))))
  [some (AObj.row Rk.look 1 0 (List.length l) (encL l)),
  some (AObj.row Rk.look 1 0 (List.length m) (encL m)),
  some
  (AObj.cells
  [Value.slice (some (Addr.mk 0 0 (some 0))) (List.length l) c, Value.bool q] true
  0),
  some (AObj.cells [Value.slice none 0 0, Value.bool false] true 0),
  some (AObj.cells [Value.slice none 0 0] true 0),
  some
  (AObj.cells
  [Value.slice (some (Addr.mk 0 0 (some 0))) (List.length l) c,
  Value.slice (some (Addr.mk 1 0 (some 0))) (List.length m) d]
  true 1)])
  (br
  (decide
  (IntKind.wrap IntKind.i64
  (IntKind.wrap IntKind.i64 ((0 : Int) + Int.ofNat (List.length l)) + Int.ofNat (List.length m)) <
  (0 : Int)))
  (K
  (AE.panicked
  (Value.iface 9
  (Value.string
  (ByteArray.mk
  #[(99 : UInt8), (97 : UInt8), (110 : UInt8), (110 : UInt8), (111 : UInt8), (116 : UInt8),
  (32 : UInt8), (98 : UInt8), (101 : UInt8), (32 : UInt8), (110 : UInt8), (101 : UInt8),
  (103 : UInt8), (97 : UInt8), (116 : UInt8), (105 : UInt8), (118 : UInt8), (101 : UInt8)]))))
  [some (AObj.row Rk.look 1 0 (List.length l) (encL l)),
  some (AObj.row Rk.look 1 0 (List.length m) (encL m)),
  some
  (AObj.cells
  [Value.slice (some (Addr.mk 0 0 (some 0))) (List.length l) c, Value.bool q] true
  0),
  some (AObj.cells [Value.slice none 0 0, Value.bool false] true 0),
  some (AObj.cells [Value.slice none 0 0] true 0),
  some
  (AObj.cells
  [Value.slice (some (Addr.mk 0 0 (some 0))) (List.length l) c,
  Value.slice (some (Addr.mk 1 0 (some 0))) (List.length m) d]
  true 1)])
  (br
  (decide
  (IntKind.wrap IntKind.i64
  (IntKind.wrap IntKind.i64
  (IntKind.wrap IntKind.i64 ((0 : Int) + Int.ofNat (List.length l)) + Int.ofNat (List.length m)) -
  (0 : Int)) >
  (0 : Int)))
  (need
  (decide
  ((0 : Int) ≤
  IntKind.wrap IntKind.i64
  (IntKind.wrap IntKind.i64
  (IntKind.wrap IntKind.i64 ((0 : Int) + Int.ofNat (List.length l)) + Int.ofNat (List.length m)) -
  (0 : Int))))
  (need
  (Nat.ble
  (Int.toNat
  (IntKind.wrap IntKind.i64
  (IntKind.wrap IntKind.i64
  (IntKind.wrap IntKind.i64 ((0 : Int) + Int.ofNat (List.length l)) + Int.ofNat (List.length m)) -
  (0 : Int))))
  1000000)
  (need
  (Nat.ble
  (0 +
  Int.toNat
  (IntKind.wrap IntKind.i64
  (IntKind.wrap IntKind.i64
  (IntKind.wrap IntKind.i64 ((0 : Int) + Int.ofNat (List.length l)) +
  Int.ofNat (List.length m)) -
  (0 : Int))))
  1000000)
  (need (true && Nat.ble (0 + List.length l) (List.length l))
  (need (Nat.ble (0 + List.length l) 1000000)
  (need (true && Nat.ble (0 + List.length m) (List.length m))
  (need (Nat.ble (0 + List.length l + List.length m) 1000000)
  (need (true && Nat.ble (0 + (0 + List.length l)) (0 + List.length l))
  (LoopJ Try.prog β (exFd l m) 0 (loopOf Try.prog 9 0)
  (mkFD 23
  [(4, Value.pointer (some (Addr.mk 2 0 none))),
  (5, Value.pointer (some (Addr.mk 3 0 none))),
  (6, Value.pointer (some (Addr.mk 4 0 none)))]
  [ADef.mk (Fn.func 16) []
  [Value.pointer (some (Addr.mk 4 0 none)),
  Value.pointer (some (Addr.mk 2 0 none)),
  Value.pointer (some (Addr.mk 3 0 none))]])
  (mkS
  [some (AObj.row Rk.look 1 0 (List.length l) (encL l)),
  some (AObj.row Rk.look 1 0 (List.length m) (encL m)),
  some
  (AObj.cells [Value.slice none 0 0, Value.bool false] true
  0),
  some (AObj.cells [Value.slice none 0 0] true 0),
  some
  (AObj.cells
  [Value.slice (some (Addr.mk 5 0 (some 0)))
  (0 + List.length l + List.length m)
  (bif
  Nat.beq
  (Int.toNat
  (IntKind.wrap IntKind.i64
  (IntKind.wrap IntKind.i64
  (IntKind.wrap IntKind.i64
  ((0 : Int) + Int.ofNat (List.length l)) +
  Int.ofNat (List.length m)) -
  (0 : Int))))
  0 then
  1
  else 0),
  Value.slice none 0 0]
  true 0),
  some
  (AObj.row Rk.mine 1 0 (0 + List.length l + List.length m)
  fun j k =>
  mrgT (Nat.blt j (0 + List.length l))
  (mrgT (Nat.blt (0 + j) 0)
  (nthT [Td.sc (Value.int IntKind.u8 (0 : Int))] k)
  (encL l (0 + (0 + j - 0)) k))
  (encL m (0 + (j - (0 + List.length l))) k))]) ∧
  (Prod.snd (Prod.snd (fd (l ++ m))) = 2 →
  need
  (Nat.ble 0 (kFd (l ++ m)) &&
  Nat.ble (kFd (l ++ m) + List.length (Prod.fst (Prod.snd (fd (l ++ m)))))
  (List.length (l ++ m)))
  (need
  (okC 1
  [Ta.cell
  (Td.fr 1 (List.length (Prod.fst (Prod.snd (fd (l ++ m)))))
  (c0Fd (l ++ m)) fun i => encL (l ++ m) (kFd (l ++ m) + i))])
  (K
  (AE.returned
  (Value.tuple
  (Array.mk
  [Value.agg
  (Array.mk [Value.slice none 0 0, Value.bool true]),
  Value.slice (some (Addr.mk 6 0 (some 0)))
  (List.length (Prod.fst (fd (l ++ m)))) 1])))
  [some (AObj.row Rk.look 1 0 (List.length l) (encL l)),
  some (AObj.row Rk.look 1 0 (List.length m) (encL m)),
  some
  (AObj.cells [Value.slice none 0 0, Value.bool true] true
  0),
  some
  (AObj.cells
  [Value.slice (some (Addr.mk 6 0 (some 0)))
  (List.length (Prod.fst (fd (l ++ m)))) 1]
  true 0),
  some
  (AObj.cells
  [Value.slice (some (Addr.mk 5 0 (some (kFd (l ++ m)))))
  (List.length (Prod.fst (Prod.snd (fd (l ++ m))))) (c0Fd (l ++ m)),
  Value.slice (some (Addr.mk 6 0 (some 0)))
  (List.length (Prod.fst (fd (l ++ m)))) 1]
  true 0),
  some
  (AObj.row Rk.mine 1 0 (List.length (l ++ m)) (encL (l ++ m))),
  some
  (AObj.row Rk.mine 1 0 (List.length (Prod.fst (fd (l ++ m))))
  (encL (Prod.fst (fd (l ++ m))))),
  some (AObj.cells [Value.bool true] true 0), none,
  some
  (AObj.row Rk.mine 1 0
  (List.length (Prod.fst (Prod.snd (fd (l ++ m))))) fun i =>
  encL (l ++ m) (kFd (l ++ m) + i))]))) ∧
  (Prod.snd (Prod.snd (fd (l ++ m))) = 11 →
  need
  (Nat.ble 0 (kFd (l ++ m)) &&
  Nat.ble (kFd (l ++ m) + List.length (Prod.fst (Prod.snd (fd (l ++ m)))))
  (List.length (l ++ m)))
  (need
  (okC 1
  [Ta.cell
  (Td.fr 1 (List.length (Prod.fst (Prod.snd (fd (l ++ m)))))
  (c0Fd (l ++ m)) fun i => encL (l ++ m) (kFd (l ++ m) + i))])
  (K
  (AE.returned
  (Value.tuple
  (Array.mk
  [Value.agg
  (Array.mk
  [Value.slice (some (Addr.mk 9 0 (some 0)))
  (List.length (Prod.fst (Prod.snd (fd (l ++ m))))) (c0Fd (l ++ m)),
  Value.bool false]),
  Value.slice (some (Addr.mk 6 0 (some 0)))
  (List.length (Prod.fst (fd (l ++ m)))) 1])))
  [some (AObj.row Rk.look 1 0 (List.length l) (encL l)),
  some (AObj.row Rk.look 1 0 (List.length m) (encL m)),
  some
  (AObj.cells
  [Value.slice (some (Addr.mk 9 0 (some 0)))
  (List.length (Prod.fst (Prod.snd (fd (l ++ m))))) (c0Fd (l ++ m)),
  Value.bool false]
  true 0),
  some
  (AObj.cells
  [Value.slice (some (Addr.mk 6 0 (some 0)))
  (List.length (Prod.fst (fd (l ++ m)))) 1]
  true 0),
  some
  (AObj.cells
  [Value.slice (some (Addr.mk 5 0 (some (kFd (l ++ m)))))
  (List.length (Prod.fst (Prod.snd (fd (l ++ m))))) (c0Fd (l ++ m)),
  Value.slice (some (Addr.mk 6 0 (some 0)))
  (List.length (Prod.fst (fd (l ++ m)))) 1]
  true 0),
  some
  (AObj.row Rk.mine 1 0 (List.length (l ++ m)) (encL (l ++ m))),
  some
  (AObj.row Rk.mine 1 0 (List.length (Prod.fst (fd (l ++ m))))
  (encL (Prod.fst (fd (l ++ m))))),
  some (AObj.cells [Value.bool false] true 0), none,
  some
  (AObj.row Rk.mine 1 0
  (List.length (Prod.fst (Prod.snd (fd (l ++ m))))) fun i =>
  encL (l ++ m) (kFd (l ++ m) + i))]))))))))))))
  (need (true && Nat.ble (0 + List.length l) (List.length l))
  (need (Nat.ble (0 + List.length l) 1000000)
  (need (true && Nat.ble (0 + List.length m) (List.length m))
  (need (Nat.ble (List.length l + List.length m) 1000000)
  (need (true && Nat.ble (0 + List.length l) (List.length l))
  (LoopJ Try.prog β (exFd l m) 0 (loopOf Try.prog 9 0)
  (mkFD 23
  [(4, Value.pointer (some (Addr.mk 2 0 none))),
  (5, Value.pointer (some (Addr.mk 3 0 none))),
  (6, Value.pointer (some (Addr.mk 4 0 none)))]
  [ADef.mk (Fn.func 16) []
  [Value.pointer (some (Addr.mk 4 0 none)),
  Value.pointer (some (Addr.mk 2 0 none)),
  Value.pointer (some (Addr.mk 3 0 none))]])
  (mkS
  [some (AObj.row Rk.look 1 0 (List.length l) (encL l)),
  some (AObj.row Rk.look 1 0 (List.length m) (encL m)),
  some (AObj.cells [Value.slice none 0 0, Value.bool false] true 0),
  some (AObj.cells [Value.slice none 0 0] true 0),
  some
  (AObj.cells
  [Value.slice (some (Addr.mk 5 0 (some 0)))
  (List.length l + List.length m) 1,
  Value.slice none 0 0]
  true 0),
  some
  (AObj.row Rk.mine 1 0 (List.length l + List.length m) fun j k =>
  mrgT (Nat.blt j (List.length l)) (encL l (0 + (0 + j)) k)
  (encL m (0 + (j - List.length l)) k))]) ∧
  (Prod.snd (Prod.snd (fd (l ++ m))) = 2 →
  need
  (Nat.ble 0 (kFd (l ++ m)) &&
  Nat.ble (kFd (l ++ m) + List.length (Prod.fst (Prod.snd (fd (l ++ m)))))
  (List.length (l ++ m)))
  (need
  (okC 1
  [Ta.cell
  (Td.fr 1 (List.length (Prod.fst (Prod.snd (fd (l ++ m))))) (c0Fd (l ++ m))
  fun i => encL (l ++ m) (kFd (l ++ m) + i))])
  (K
  (AE.returned
  (Value.tuple
  (Array.mk
  [Value.agg (Array.mk [Value.slice none 0 0, Value.bool true]),
  Value.slice (some (Addr.mk 6 0 (some 0)))
  (List.length (Prod.fst (fd (l ++ m)))) 1])))
  [some (AObj.row Rk.look 1 0 (List.length l) (encL l)),
  some (AObj.row Rk.look 1 0 (List.length m) (encL m)),
  some
  (AObj.cells [Value.slice none 0 0, Value.bool true] true 0),
  some
  (AObj.cells
  [Value.slice (some (Addr.mk 6 0 (some 0)))
  (List.length (Prod.fst (fd (l ++ m)))) 1]
  true 0),
  some
  (AObj.cells
  [Value.slice (some (Addr.mk 5 0 (some (kFd (l ++ m)))))
  (List.length (Prod.fst (Prod.snd (fd (l ++ m))))) (c0Fd (l ++ m)),
  Value.slice (some (Addr.mk 6 0 (some 0)))
  (List.length (Prod.fst (fd (l ++ m)))) 1]
  true 0),
  some (AObj.row Rk.mine 1 0 (List.length (l ++ m)) (encL (l ++ m))),
  some
  (AObj.row Rk.mine 1 0 (List.length (Prod.fst (fd (l ++ m))))
  (encL (Prod.fst (fd (l ++ m))))),
  some (AObj.cells [Value.bool true] true 0), none,
  some
  (AObj.row Rk.mine 1 0
  (List.length (Prod.fst (Prod.snd (fd (l ++ m))))) fun i =>
  encL (l ++ m) (kFd (l ++ m) + i))]))) ∧
  (Prod.snd (Prod.snd (fd (l ++ m))) = 11 →
  need
  (Nat.ble 0 (kFd (l ++ m)) &&
  Nat.ble (kFd (l ++ m) + List.length (Prod.fst (Prod.snd (fd (l ++ m)))))
  (List.length (l ++ m)))
  (need
  (okC 1
  [Ta.cell
  (Td.fr 1 (List.length (Prod.fst (Prod.snd (fd (l ++ m))))) (c0Fd (l ++ m))
  fun i => encL (l ++ m) (kFd (l ++ m) + i))])
  (K
  (AE.returned
  (Value.tuple
  (Array.mk
  [Value.agg
  (Array.mk
  [Value.slice (some (Addr.mk 9 0 (some 0)))
  (List.length (Prod.fst (Prod.snd (fd (l ++ m))))) (c0Fd (l ++ m)),
  Value.bool false]),
  Value.slice (some (Addr.mk 6 0 (some 0)))
  (List.length (Prod.fst (fd (l ++ m)))) 1])))
  [some (AObj.row Rk.look 1 0 (List.length l) (encL l)),
  some (AObj.row Rk.look 1 0 (List.length m) (encL m)),
  some
  (AObj.cells
  [Value.slice (some (Addr.mk 9 0 (some 0)))
  (List.length (Prod.fst (Prod.snd (fd (l ++ m))))) (c0Fd (l ++ m)),
  Value.bool false]
  true 0),
  some
  (AObj.cells
  [Value.slice (some (Addr.mk 6 0 (some 0)))
  (List.length (Prod.fst (fd (l ++ m)))) 1]
  true 0),
  some
  (AObj.cells
  [Value.slice (some (Addr.mk 5 0 (some (kFd (l ++ m)))))
  (List.length (Prod.fst (Prod.snd (fd (l ++ m))))) (c0Fd (l ++ m)),
  Value.slice (some (Addr.mk 6 0 (some 0)))
  (List.length (Prod.fst (fd (l ++ m)))) 1]
  true 0),
  some (AObj.row Rk.mine 1 0 (List.length (l ++ m)) (encL (l ++ m))),
  some
  (AObj.row Rk.mine 1 0 (List.length (Prod.fst (fd (l ++ m))))
  (encL (Prod.fst (fd (l ++ m))))),
  some (AObj.cells [Value.bool false] true 0), none,
  some
  (AObj.row Rk.mine 1 0
  (List.length (Prod.fst (Prod.snd (fd (l ++ m))))) fun i =>
  encL (l ++ m) (kFd (l ++ m) + i))])))))))))))))) := by kernel_rfl
theorem vc_fd_r (l m a : List U8) (k n c : Nat) (ls : List Ld) (β : Bs) (N : Kt) (ex : Nat → Kt → Prop) : roundP Try.prog toldQ 100 20 β (fun _ => 0) (cnOf 2 fun _ => [4, 5, 6]) ex 9 0 2 lvFd FFd (SFd l m a k n c ls) N =
(  need (Nat.ble 0 k && Nat.ble (k + n) (List.length a))
  (need (ok1 U8 (fun l x => List.all l (okA U8)) [Ta.cell (Td.fr 1 n c fun i => encL a (k + i))])
  (br (Int.ofNat (tkE (listT U8 (Td.fr 1 n c fun i => encL a (k + i)))) != (0 : Int))
  (N
  (AX.panic
  (Value.iface 56
  (Value.agg
  (Array.mk
  [Value.bool (Int.ofNat (tkE (listT U8 (Td.fr 1 n c fun i => encL a (k + i)))) == (2 : Int))]))))
  (mkFD 23
  [(4, Value.pointer (some (Addr.mk 2 0 none))),
  (5, Value.pointer (some (Addr.mk 3 0 none)))]
  [ADef.mk (Fn.func 16) []
  [Value.pointer (some (Addr.mk 4 0 none)),
  Value.pointer (some (Addr.mk 2 0 none)),
  Value.pointer (some (Addr.mk 3 0 none))]])
  (mkS
  [some (AObj.row Rk.look 1 0 (List.length l) (encL l)),
  some (AObj.row Rk.look 1 0 (List.length m) (encL m)),
  some (AObj.cells [Value.slice none 0 0, Value.bool false] true 0),
  some (AObj.cells [Value.slice none 0 0] true 0),
  some
  (AObj.cells
  [Value.slice (some (Addr.mk 5 0 (some k))) n c,
  Value.slice (some (Addr.mk 6 0 (some 0))) (List.length ls) 1]
  true 0),
  some (AObj.row Rk.mine 1 0 (List.length a) (encL a)),
  some (AObj.row Rk.mine 1 0 (List.length ls) (encL ls))]))
  (need (Nat.ble (Int.toNat (Int.ofNat (tkN (listT U8 (Td.fr 1 n c fun i => encL a (k + i)))))) n)
  (need
  (true &&
  Nat.ble (0 + List.length (tkL (listT U8 (Td.fr 1 n c fun i => encL a (k + i)))))
  (List.length (tkL (listT U8 (Td.fr 1 n c fun i => encL a (k + i))))))
  (need (Nat.ble (List.length ls + 1) 1000000)
  (need (true && Nat.ble (0 + List.length ls) (List.length ls))
  (N AX.normal
  (mkFD 23
  [(4, Value.pointer (some (Addr.mk 2 0 none))),
  (5, Value.pointer (some (Addr.mk 3 0 none))),
  (6, Value.pointer (some (Addr.mk 4 0 none)))]
  [ADef.mk (Fn.func 16) []
  [Value.pointer (some (Addr.mk 4 0 none)),
  Value.pointer (some (Addr.mk 2 0 none)),
  Value.pointer (some (Addr.mk 3 0 none))]])
  (mkS
  [some (AObj.row Rk.look 1 0 (List.length l) (encL l)),
  some (AObj.row Rk.look 1 0 (List.length m) (encL m)),
  some (AObj.cells [Value.slice none 0 0, Value.bool false] true 0),
  some (AObj.cells [Value.slice none 0 0] true 0),
  some
  (AObj.cells
  [Value.slice
  (some
  (Addr.mk 5 0
  (some
  (k +
  Int.toNat
  (Int.ofNat (tkN (listT U8 (Td.fr 1 n c fun i => encL a (k + i)))))))))
  (n - Int.toNat (Int.ofNat (tkN (listT U8 (Td.fr 1 n c fun i => encL a (k + i))))))
  (bif Nat.beq n 0 then c else 0),
  Value.slice (some (Addr.mk 6 0 (some 0))) (List.length ls + 1)
  1]
  true 0),
  some (AObj.row Rk.mine 1 0 (List.length a) (encL a)),
  some
  (AObj.row Rk.mine 1 0 (List.length ls + 1) fun j k_1 =>
  mrgT (Nat.blt j (List.length ls)) (encL ls (0 + j) k_1)
  (selT 1 1
  [Td.fr 1
  (List.length (tkL (listT U8 (Td.fr 1 n c fun i => encL a (k + i)))))
  (tkC (listT U8 (Td.fr 1 n c fun i => encL a (k + i)))) fun i =>
  encL (tkL (listT U8 (Td.fr 1 n c fun i => encL a (k + i)))) (0 + i)]
  (j - List.length ls) k_1))]))))))))) := by kernel_rfl
end Go.Proofs.Ytdmagcdkklacdaa.Ev

/-! feed.Add: which frames come of bytes that come. -/
set_option linter.unusedVariables false
set_option linter.unusedSimpArgs false
namespace Go.Proofs.Ytdmagcdkklacdaa.Ev
open Go Go.Proofs Go.RowKit

theorem drop_getD {α : Type} (l : List α) (k i : Nat) (d : α) : (l.drop k).getD i d = l.getD (k + i) d := by
  simp [List.getD, List.getElem?_drop]
theorem encL_drop {α : Type} [Enc α] (l : List α) (k i j : Nat) : encL (l.drop k) i j = encL l (k + i) j := by
  unfold encL; rw [drop_getD]
theorem listU_drop (l : List U8) (c : Nat) {k : Nat} (h : k ≤ l.length) : listT U8 (Td.fr 1 (l.length - k) c fun i => encL l (k + i)) = l.drop k := by
  rw [listU_mid l c (by omega), List.take_of_length_le (by simp)]
def FdSuf (l : List U8) : Prop := ∃ k, k ≤ l.length ∧ (fd l).2.1 = l.drop k
theorem fd_suf : ∀ l : List U8, FdSuf l := by
  refine fd_ind FdSuf (fun l h => ?_) (fun l h ih => ?_)
  · exact ⟨0, Nat.zero_le _, by rw [fd_stop h]; rfl⟩
  · obtain ⟨k, h1, h2⟩ := ih
    have h6 := tkE_len h
    rw [List.length_drop] at h1
    refine ⟨lenU l + 6 + k, by omega, ?_⟩
    rw [fd_go h]
    show (fd (l.drop (lenU l + 6))).2.1 = _
    rw [h2, List.drop_drop]
theorem fd_rest (l : List U8) : (fd l).2.1 = l.drop (kFd l) ∧ kFd l + (fd l).2.1.length = l.length := by
  obtain ⟨k, h1, h2⟩ := fd_suf l
  have : kFd l = k := by unfold kFd; rw [h2, List.length_drop]; omega
  rw [this]
  exact ⟨h2, by rw [h2, List.length_drop]; omega⟩
theorem tkE_t {l : List U8} {q : Nat} (h : tkE l = q) (hq : q ≠ 0) : (Int.ofNat (tkE l) != (0 : Int)) = true := by
  rw [h]
  have : Int.ofNat q ≠ (0 : Int) := by intro h; apply hq; exact Int.ofNat.inj h
  simpa using this
/-- the rounds: what was taken, what is left -/
def IFd (a : List U8) (p : Nat × List Ld) : Prop := p.1 ≤ a.length ∧ fd a = (p.2 ++ (fd (a.drop p.1)).1, (fd (a.drop p.1)).2) ∧ p.2.length ≤ p.1
theorem IFd_0 (a : List U8) : IFd a (0, []) := ⟨Nat.zero_le _, by simp, by simp⟩
theorem IFd_go {a : List U8} {k : Nat} {ls : List Ld} (h : IFd a (k, ls)) (h0 : tkE (a.drop k) = 0) : IFd a (k + (lenU (a.drop k) + 6), ls ++ [⟨midU (a.drop k), 0⟩]) ∧ k + (lenU (a.drop k) + 6) ≤ a.length := by
  obtain ⟨h1, h2, h3⟩ := h
  have h6 := tkE_len h0
  rw [List.length_drop] at h6
  have h1 : k ≤ a.length := h1
  refine ⟨⟨by show k + (lenU (a.drop k) + 6) ≤ _; omega, ?_, ?_⟩, by omega⟩
  · have h2 : fd a = (ls ++ (fd (a.drop k)).1, (fd (a.drop k)).2) := h2
    show fd a = (ls ++ [_] ++ (fd (a.drop (k + (lenU (a.drop k) + 6)))).1, (fd (a.drop (k + (lenU (a.drop k) + 6)))).2)
    rw [h2, fd_go h0, List.drop_drop]
    simp
  · have h3 : ls.length ≤ k := h3
    show (ls ++ [_]).length ≤ _
    simp; omega
theorem IFd_stop {a : List U8} {k : Nat} {ls : List Ld} (h : IFd a (k, ls)) (h0 : tkE (a.drop k) ≠ 0) : (fd a).1 = ls ∧ (fd a).2.2 = tkE (a.drop k) ∧ kFd a = k ∧ (fd a).2.1.length = a.length - k := by
  obtain ⟨h1, h2, h3⟩ := h
  have h1 : k ≤ a.length := h1
  have h2 : fd a = (ls ++ (fd (a.drop k)).1, (fd (a.drop k)).2) := h2
  rw [fd_stop h0] at h2
  have e1 : (fd a).1 = ls := by rw [h2]; simp
  have e2 : (fd a).2.1 = a.drop k := by rw [h2]
  have e3 : (fd a).2.2 = tkE (a.drop k) := by rw [h2]
  refine ⟨e1, e3, ?_, by rw [e2, List.length_drop]⟩
  unfold kFd; rw [e2, List.length_drop]; omega
theorem fd_loop {l m : List U8} {β : Bs} (hβ : β.X.length = 2) (hlen : (l ++ m).length ≤ 1000000) (hok : (l ++ m).all (okA U8) = true) :
    LoopJ Try.prog β (exFd l m) 0 (loopOf Try.prog 9 0) FFd (SFd l m (l ++ m) 0 ((l ++ m).length - 0) (c0Fd (l ++ m)) []) := by
  refine loop_ruleP (IFd (l ++ m)) (fun _ => FFd) (fun p => SFd l m (l ++ m) p.1 ((l ++ m).length - p.1) (c0Fd (l ++ m)) p.2) (fun p => (l ++ m).length - p.1) (fun p hp K hK => ?_) (0, []) (IFd_0 _)
  obtain ⟨k, ls⟩ := p
  have hK : ((fd (l ++ m)).2.2 = 2 → K (.panic (doneV true)) FFp (SFd l m (l ++ m) (kFd (l ++ m)) (fd (l ++ m)).2.1.length (c0Fd (l ++ m)) (fd (l ++ m)).1)) ∧ ((fd (l ++ m)).2.2 = 11 → K (.panic (doneV false)) FFp (SFd l m (l ++ m) (kFd (l ++ m)) (fd (l ++ m)).2.1.length (c0Fd (l ++ m)) (fd (l ++ m)).1)) := hK
  have hgo := fun h => IFd_go hp h
  have hstop := fun h => IFd_stop hp h
  have hk : k ≤ (l ++ m).length := hp.1
  have hls : ls.length ≤ k := hp.2.2
  generalize l ++ m = a at *
  have hgoal : roundP Try.prog toldQ 100 20 β (fun _ => 0) (cnOf 2 fun _ => [4, 5, 6]) (fun _ _ => False) 9 0 2 lvFd FFd (SFd l m a k (a.length - k) (c0Fd a) ls) (NnP β (IFd a) (fun p => a.length - p.1) (fun _ => FFd) (fun p => SFd l m a p.1 (a.length - p.1) (c0Fd a) p.2) (k, ls) K) → J Try.prog β (loopOf Try.prog 9 0) FFd (SFd l m a k (a.length - k) (c0Fd a) ls) (NnP β (IFd a) (fun p => a.length - p.1) (fun _ => FFd) (fun p => SFd l m a p.1 (a.length - p.1) (c0Fd a) p.2) (k, ls) K) := fun h => roundP_ok follows toldQ_ok hβ h
  refine hgoal ?_
  rw [vc_fd_r]
  have L1 := listU_drop a (c0Fd a) hk
  have hc0 : c0Fd a ≤ 1 := by unfold c0Fd; split <;> omega
  have o1 := ok1_mid (c := c0Fd a) hok (k := k) (n := a.length - k) (by omega) (by omega) hc0
  have b0 : Nat.ble 0 k = true := by simp
  have b1 : Nat.ble (k + (a.length - k)) a.length = true := Nat.ble_eq_true_of_le (by omega)
  have b2 : Nat.ble (ls.length + 1) 1000000 = true ∨ ¬ ls.length < 1000000 := by
    rcases Nat.lt_or_ge ls.length 1000000 with h | h
    · exact .inl (Nat.ble_eq_true_of_le h)
    · exact .inr (by omega)
  have i0 : ∀ n : Nat, Int.toNat (Int.ofNat n) = n := fun n => Int.toNat_natCast n
  simp only [L1, o1, b0, b1, Bool.true_and, need_t, i0]
  have hstop2 : ∀ q, tkE (a.drop k) = q → q ≠ 0 → (fd a).2.2 = q ∧ SFd l m a (kFd a) (fd a).2.1.length (c0Fd a) (fd a).1 = SFd l m a k (a.length - k) (c0Fd a) ls := fun q h1 h2 => by
    obtain ⟨e1, e2, e3, e4⟩ := hstop (by omega)
    rw [e1, e3, e4]
    exact ⟨by omega, rfl⟩
  rcases tkE_cases (a.drop k) with h0 | h0 | h0
  · have ht : (Int.ofNat (tkE (a.drop k)) != (0 : Int)) = false := by rw [h0]; rfl
    obtain ⟨g1, g2⟩ := hgo h0
    have hN : tkN (a.drop k) = lenU (a.drop k) + 6 := by unfold tkN; rw [if_pos h0]
    have hL : tkL (a.drop k) = midU (a.drop k) := by unfold tkL; rw [if_pos h0]
    have hC : tkC (a.drop k) = 0 := by unfold tkC; rw [if_pos h0]
    have b3 : Nat.ble (lenU (a.drop k) + 6) (a.length - k) = true := Nat.ble_eq_true_of_le (by omega)
    have b4 : Nat.ble (ls.length + 1) 1000000 = true := Nat.ble_eq_true_of_le (by omega)
    have z1 : Nat.beq (a.length - k) 0 = false := beq_false (by omega)
    have z2 : c0Fd a = 0 := by unfold c0Fd; rw [if_neg (by omega)]
    simp only [ht, br_f, hN, hL, hC, b3, b4, need_t, Nat.zero_add, bleS, Bool.true_and, z1, cond_false]
    refine .inl (.inl ⟨rfl, (k + (lenU (a.drop k) + 6), ls ++ [⟨midU (a.drop k), 0⟩]), g1, by show a.length - (k + (lenU (a.drop k) + 6)) < a.length - k; omega, ?_⟩)
    have hS : SFd l m a (k + (lenU (a.drop k) + 6)) (a.length - (k + (lenU (a.drop k) + 6))) (c0Fd a) (ls ++ [⟨midU (a.drop k), 0⟩]) = mkS [some (rowO .look l), some (rowO .look m), some (.cells [.slice none 0 0, .bool false] true 0), some (.cells [.slice none 0 0] true 0), some (.cells [.slice (some ⟨5, 0, some (k + (lenU (a.drop k) + 6))⟩) (a.length - k - (lenU (a.drop k) + 6)) 0, .slice (some ⟨6, 0, some 0⟩) (ls.length + 1) 1] true 0), some (rowO .mine a), some (rowO .mine (ls ++ [⟨midU (a.drop k), 0⟩]))] := by
      unfold SFd
      rw [z2, List.length_append, Nat.sub_sub]; rfl
    show Seen β _ _ FFd (SFd l m a (k + (lenU (a.drop k) + 6)) (a.length - (k + (lenU (a.drop k) + 6))) (c0Fd a) (ls ++ [⟨midU (a.drop k), 0⟩]))
    rw [hS]
    refine Seen.objs rfl fun q o2 h => ?_
    match q, h with
    | 0, h => cases h; exact ⟨_, rfl, rfl, fun _ _ _ h => h⟩
    | 1, h => cases h; exact ⟨_, rfl, rfl, fun _ _ _ h => h⟩
    | 2, h => cases h; exact ⟨_, rfl, rfl, fun _ _ _ h => h⟩
    | 3, h => cases h; exact ⟨_, rfl, rfl, fun _ _ _ h => h⟩
    | 4, h => cases h; exact ⟨_, rfl, rfl, fun _ _ _ h => h⟩
    | 5, h => cases h; exact ⟨_, rfl, rfl, fun _ _ _ h => h⟩
    | 6, h =>
      cases h
      refine ⟨_, rfl, rfl, fun ρ s' w' h => row_app (α := Ld) (es := 1) (n := ls.length) (g := fun i j => encL ls i j) (ts := _) rfl rfl (fun i j => rfl) (fun j hj => ?_) (by simpa only [Nat.zero_add] using h)⟩
      match j, hj with
      | 0, _ => rfl
  · have ht : (Int.ofNat (tkE (a.drop k)) != (0 : Int)) = true := tkE_t h0 (by omega)
    have h2 : (Int.ofNat (tkE (a.drop k)) == (2 : Int)) = true := by rw [h0]; rfl
    obtain ⟨e1, e2⟩ := hstop2 2 h0 (by omega)
    simp only [ht, br_t, h2]
    have hK1 := hK.1 e1
    rw [e2] at hK1
    exact .inr ⟨_, rfl, rfl, _, _, Seen.refl _ _ _, hK1⟩
  · have ht : (Int.ofNat (tkE (a.drop k)) != (0 : Int)) = true := tkE_t h0 (by omega)
    have h2 : (Int.ofNat (tkE (a.drop k)) == (2 : Int)) = false := by rw [h0]; rfl
    obtain ⟨e1, e2⟩ := hstop2 11 h0 (by omega)
    simp only [ht, br_t, h2]
    have hK1 := hK.2 e1
    rw [e2] at hK1
    exact .inr ⟨_, rfl, rfl, _, _, Seen.refl _ _ _, hK1⟩
/-! ### what it answers -/
def fdB (q : Bool) (l m : List U8) : List U8 := cond q l (cond (Nat.beq (fd (l ++ m)).2.2 2) [] (fd (l ++ m)).2.1)
def fdC (q : Bool) (l : List U8) (c : Nat) (m : List U8) : Nat := cond q c (cond (Nat.beq (fd (l ++ m)).2.2 2) 1 (c0Fd (l ++ m)))
def fdQ (q : Bool) (l m : List U8) : Bool := cond q true (Nat.beq (fd (l ++ m)).2.2 2)
def fdL (q : Bool) (l m : List U8) : List Ld := cond q [] (fd (l ++ m)).1
def fdA (q : Bool) (l : List U8) (c : Nat) (m : List U8) : Ans := .rets [.agg [ownL (fdB q l m) (fdC q l c m), .sc (.bool (fdQ q l m))], .cell (ownL (fdL q l m) 1)]
def boolD (t : Td) : Bool := match t with | .sc (.bool b) => b | _ => false
def boolOk (t : Td) : Bool := match t with | .sc (.bool _) => true | _ => false
theorem boolOk_inv {t : Td} (h : boolOk t = true) : t = .sc (.bool (boolD t)) := by
  unfold boolOk at h
  split at h
  · rfl
  · cases h
def okFd (ts : List Ta) : Bool := match ts with
  | [.agg [a, q], .cell b] => okT U8 a && (listT U8 a).all (okA U8) && boolOk q && (okT U8 b && (listT U8 b).all (okA U8)) && Nat.ble ((listT U8 a).length + (listT U8 b).length) 1000000
  | _ => false
def ansFd (ts : List Ta) : Ans := match ts with
  | [.agg [a, q], .cell b] => fdA (boolD q) (listT U8 a) (nilT a) (listT U8 b)
  | _ => .pan .nilIface
theorem raE_nil {α : Type} [Enc α] (st : ASt) : raE st (ownL ([] : List α) 1) (.slice none 0 0) [] := .inl ⟨rfl, rfl, rfl, rfl⟩
theorem fd_bad {l m : List U8} {c : Nat} {M : List (Option AObj)} {k : Nat} (h2 : (fd (l ++ m)).2.2 = 2) (hM : M[k]? = some (some (.row .mine 1 0 (fd (l ++ m)).1.length (encL (fd (l ++ m)).1)))) :
    ∃ m2, objsR M m2 ∧ ansE (fdA false l c m) (.returned (.tuple ⟨[.agg ⟨[.slice none 0 0, .bool true]⟩, .slice (some ⟨k, 0, some 0⟩) (fd (l ++ m)).1.length 1]⟩)) (mkS m2) := by
  have hkl := (List.getElem?_eq_some_iff.1 hM).1
  have hb : Nat.beq (fd (l ++ m)).2.2 2 = true := by rw [h2]; rfl
  refine ⟨_, outAt (o2 := rowO .mine (fd (l ++ m)).1) hM rfl (fun _ _ _ h => h), ⟨_, [k], rfl, ⟨[], [k], rfl, ⟨_, rfl, [], [], rfl, ?_, [], [], rfl, ⟨rfl, ?_, rfl⟩, rfl⟩, [k], [], rfl, ?_, rfl⟩, by simp⟩⟩
  · show raE _ (ownL (cond false _ (cond (Nat.beq (fd (l ++ m)).2.2 2) _ _)) (cond false _ (cond (Nat.beq (fd (l ++ m)).2.2 2) _ _))) _ _
    rw [hb]; exact raE_nil _
  · show _ = Value.bool (cond false true (Nat.beq (fd (l ++ m)).2.2 2))
    rw [hb]; rfl
  · exact own_at hkl rfl (fun _ => rfl)
theorem fd_none {l m : List U8} {c : Nat} {M : List (Option AObj)} {k kb i0 n cb N : Nat} {e : Nat → Nat → Td} (hne : k ≠ kb) (h2 : (fd (l ++ m)).2.2 = 11) (hM : M[k]? = some (some (.row .mine 1 0 (fd (l ++ m)).1.length (encL (fd (l ++ m)).1)))) (hB : M[kb]? = some (some (.row .mine 1 0 N e)))
    (hn : n = (fd (l ++ m)).2.1.length) (hi : i0 + n ≤ N) (he : ∀ i, i < n → e (i0 + i) 0 = encL (l ++ m) (kFd (l ++ m) + i) 0) (hcb : n = 0 → cb = c) :
    ∃ m2, objsR M m2 ∧ ansE (.rets [.agg [ownL (fdB false l m) c, .sc (.bool (fdQ false l m))], .cell (ownL (fdL false l m) 1)]) (.returned (.tuple ⟨[.agg ⟨[.slice (some ⟨kb, 0, some i0⟩) n cb, .bool false]⟩, .slice (some ⟨k, 0, some 0⟩) (fd (l ++ m)).1.length 1]⟩)) (mkS m2) := by
  have hb : Nat.beq (fd (l ++ m)).2.2 2 = false := by rw [h2]; rfl
  subst hn
  refine ⟨_, objsR.refl _, ⟨_, [kb, k], rfl, ⟨[kb], [k], rfl, ⟨_, rfl, [kb], [], rfl, ?_, [], [], rfl, ⟨rfl, ?_, rfl⟩, rfl⟩, [k], [], rfl, ?_, rfl⟩, by simp; exact fun h => hne h.symm⟩⟩
  · show raE _ (ownL (cond false _ (cond (Nat.beq (fd (l ++ m)).2.2 2) _ _)) _) _ _
    rw [hb]
    refine .inr (.inl ⟨kb, i0, 0, N, e, cb, rfl, rfl, hcb, by rw [mkS_get, hB]; rfl, Nat.zero_le _, hi, fun i hi' j hj => ?_⟩)
    have hj : j < 1 := hj
    have : j = 0 := by omega
    subst this
    rw [he i hi']
    show _ = encL (fd (l ++ m)).2.1 i 0
    rw [(fd_rest (l ++ m)).1, encL_drop]
  · show _ = Value.bool (cond false true (Nat.beq (fd (l ++ m)).2.2 2))
    rw [hb]; rfl
  · exact .inr (.inl ⟨k, 0, 0, _, _, 1, rfl, rfl, fun _ => rfl, by rw [mkS_get, hM]; rfl, Nat.le_refl _, by show 0 + _ ≤ _; rw [Nat.zero_add]; exact Nat.le_refl _, fun i hi' j hj => by rw [Nat.zero_add]; rfl⟩)
theorem fd_seen {l m : List U8} {β : Bs} {n c : Nat} {e : Nat → Nat → Td} (hR : RowU e n (l ++ m)) (hc : c = c0Fd (l ++ m)) :
    Seen β FFd (mkS [some (rowO .look l), some (rowO .look m), some (.cells [.slice none 0 0, .bool false] true 0), some (.cells [.slice none 0 0] true 0), some (.cells [.slice (some ⟨5, 0, some 0⟩) n c, .slice none 0 0] true 0), some (.row .mine 1 0 n e)]) FFd (SFd l m (l ++ m) 0 ((l ++ m).length - 0) (c0Fd (l ++ m)) []) := by
  subst hc
  have hn := hR.len
  have hR' := hR.to hn.symm rfl
  subst hn
  refine Seen.trans (Seen.void 1 (encL ([] : List Ld))) (Seen.objs rfl fun q o2 h => ?_)
  match q, h with
  | 0, h => cases h; exact ⟨_, rfl, rfl, fun _ _ _ h => h⟩
  | 1, h => cases h; exact ⟨_, rfl, rfl, fun _ _ _ h => h⟩
  | 2, h => cases h; exact ⟨_, rfl, rfl, fun _ _ _ h => h⟩
  | 3, h => cases h; exact ⟨_, rfl, rfl, fun _ _ _ h => h⟩
  | 4, h => cases h; exact ⟨_, rfl, rfl, fun _ _ _ h => ObjR.nilCell (j := 1) (k := 6) rfl h⟩
  | 5, h => cases h; exact ⟨_, rfl, rfl, fun _ _ _ h => hR.obj _ _ _ h⟩
  | 6, h => cases h; exact ⟨_, rfl, rfl, fun _ _ _ h => h⟩
theorem fd_law {q : Bool} {l m : List U8} {c d : Nat} {β : Bs} (hβ : β.X.length = 2) (hlen : l.length + m.length ≤ 1000000) (hc : c ≤ 1) (hok : (l ++ m).all (okA U8) = true) :
    lawE Try.prog toldQ 100 20 β (fun _ => 0) (cnOf 2 fun _ => [4, 5, 6]) (exFd l m) 9 [.agg ⟨[.slice (some ⟨0, 0, some 0⟩) l.length c, .bool q]⟩, .slice (some ⟨1, 0, some 0⟩) m.length d] (mkS [some (rowO .look l), some (rowO .look m)]) (outR (ansE (fdA q l c m))) := by
  show lawE _ _ _ _ _ _ _ _ _ _ _ (outK fun r M => ∃ m2, objsR M m2 ∧ ansE (fdA q l c m) r (mkS m2))
  rw [vc_fd]
  have hl2 : (l ++ m).length = l.length + m.length := List.length_append
  refine br_of (fun hq => ?_) (fun hq => ?_)
  · subst hq
    simp only [Nat.zero_add, bleS, Bool.true_and, need_t, encZ, okC_of (es := 1) (e := encL l) (show l.length ≤ 1000000 by omega) hc]
    refine ⟨_, outAt (k := 6) (o2 := rowO .mine l) rfl rfl (fun _ _ _ h => h), ⟨_, [6], rfl, ⟨[6], [], rfl, ⟨_, rfl, [6], [], rfl, own_at (by simp) rfl (fun _ => rfl), [], [], rfl, ⟨rfl, rfl, rfl⟩, rfl⟩, [], [], rfl, raE_nil _, rfl⟩, by simp⟩⟩
  · subst hq
    have w1 : IntKind.wrap .i64 ((0 : Int) + Int.ofNat l.length) = (l.length : Int) := by
      rw [Int.ofNat_eq_natCast, w64 (by omega) (by omega)]; simp
    have w2 : IntKind.wrap .i64 ((l.length : Int) + Int.ofNat m.length) = ((l.length + m.length : Nat) : Int) := by
      rw [Int.ofNat_eq_natCast, w64 (by omega) (by omega)]; simp
    have w3 : IntKind.wrap .i64 (((l.length + m.length : Nat) : Int) - 0) = ((l.length + m.length : Nat) : Int) := by rw [Int.sub_zero]; exact w64 (by omega) (by omega)
    have d1 : decide ((l.length : Int) < 0) = false := decide_eq_false (by omega)
    have d2 : decide (((l.length + m.length : Nat) : Int) < 0) = false := decide_eq_false (by omega)
    have d3 : decide ((0 : Int) ≤ ((l.length + m.length : Nat) : Int)) = true := decide_eq_true (by omega)
    have t1 : Int.toNat ((l.length + m.length : Nat) : Int) = l.length + m.length := Int.toNat_natCast _
    have b1 : Nat.ble (l.length + m.length) 1000000 = true := Nat.ble_eq_true_of_le hlen
    have b2 : Nat.ble l.length 1000000 = true := Nat.ble_eq_true_of_le (by omega)
    have hr := fd_rest (l ++ m)
    have k1 : Nat.ble 0 (kFd (l ++ m)) = true := by simp
    have k2 : Nat.ble (kFd (l ++ m) + (fd (l ++ m)).2.1.length) (l ++ m).length = true := Nat.ble_eq_true_of_le (by omega)
    have hc0 : c0Fd (l ++ m) ≤ 1 := by unfold c0Fd; split <;> omega
    have o1 := okC_of (es := 1) (e := fun i => encL (l ++ m) (kFd (l ++ m) + i)) (n := (fd (l ++ m)).2.1.length) (c := c0Fd (l ++ m)) (by omega) hc0
    have hloop := fd_loop (l := l) (m := m) hβ (by omega) hok
    simp only [w1, w2, w3, d1, d2, d3, t1, br_f, need_t, Nat.zero_add, Nat.sub_zero, bleS, b1, b2, Bool.true_and, k1, k2, o1]
    have hfc : (fd (l ++ m)).2.2 = 11 → c0Fd (l ++ m) = fdC false l c m := fun h2 => by show _ = cond false _ (cond (Nat.beq (fd (l ++ m)).2.2 2) _ _); rw [h2]; rfl
    refine br_of (fun hp => ?_) (fun hp => ?_)
    · have hp := of_decide_eq_true hp
      have z1 : Nat.beq (l.length + m.length) 0 = false := beq_false (by omega)
      have z2 : c0Fd (l ++ m) = 0 := by unfold c0Fd; rw [if_neg (by omega)]
      simp only [z1, cond_false]
      refine ⟨LoopJ.seen (fd_seen ?_ z2.symm) hloop, fun h2 => fd_bad (k := 6) h2 rfl, fun h2 => fd_none (k := 6) (kb := 9) (by omega) h2 rfl rfl rfl (by omega) (fun i hi => by rw [Nat.zero_add]) (fun _ => hfc h2)⟩
      have hH := (((RowU.zero (l.length + m.length)).sub (k := 0) (m := 0) (by omega)).app (RowU.enc l)).app (RowU.enc m)
      have hH := hH.to (m := l.length + m.length) (M := l ++ m) (by omega) (by simp)
      simp only [Nat.zero_add, Nat.sub_zero] at hH
      exact hH
    · have hp := of_decide_eq_false hp
      have z2 : c0Fd (l ++ m) = 1 := by unfold c0Fd; rw [if_pos (by omega)]
      refine ⟨LoopJ.seen (fd_seen ?_ z2.symm) hloop, fun h2 => fd_bad (k := 6) h2 rfl, fun h2 => fd_none (k := 6) (kb := 9) (by omega) h2 rfl rfl rfl (by omega) (fun i hi => by rw [Nat.zero_add]) (fun _ => hfc h2)⟩
      exact ((RowU.enc l).app (RowU.enc m)).to rfl rfl
theorem fd_told : ToldW Try.prog 9 okFd ansFd := by
  intro ts hok w args' F hF ha
  unfold okFd at hok
  split at hok
  · rename_i a q b
    simp only [Bool.and_eq_true] at hok
    obtain ⟨⟨⟨⟨o1, o2⟩, o3⟩, o4, o5⟩, o6⟩ := hok
    obtain ⟨y, m, e, hy, hm'⟩ := ha.uncons
    obtain ⟨z, m', rfl, hz, hm2⟩ := hm'.uncons
    have := hm2.nil_inv
    subst this
    obtain ⟨arr, rfl, hy⟩ := hy
    obtain ⟨h1, h2⟩ := okT_len o1
    obtain ⟨h3, h4⟩ := okT_len o4
    have hy' : PW (TRo w F) [tdL (listT U8 a) (nilT a), .sc (.bool (boolD q))] arr.toList := by
      obtain ⟨y1, m1, e1, k1, hm1⟩ := hy.uncons
      obtain ⟨y2, m2, rfl, k2, hm2⟩ := hm1.uncons
      rw [e1]
      refine PW.cons (okT_TRo o1 k1) (PW.cons (by rw [← boolOk_inv o3]; exact k2) ?_)
      rw [hm2.nil_inv]; exact PW.nil _
    have ha' : PW (TaR w F) [.agg [tdL (listT U8 a) (nilT a), .sc (.bool (boolD q))], .cell (tdL (listT U8 b) (nilT b))] args'.toList := by rw [e]; exact PW.cons ⟨arr, rfl, hy'⟩ (PW.cons (okT_TRo o4 hz) (PW.nil _))
    refine toldW_out (ts := [.agg [tdL (listT U8 a) (nilT a), .sc (.bool (boolD q))], .cell (tdL (listT U8 b) (nilT b))]) follows ⟨toldQ, 100, 20, fun _ => 0, fun _ => [4, 5, 6], exFd (listT U8 a) (listT U8 b), toldQ_ok, fun β hβ => ?_⟩ w args' F hF ha'
    exact fd_law (q := boolD q) (l := listT U8 a) (m := listT U8 b) (c := nilT a) (d := nilT b) hβ (Nat.le_of_ble_eq_true o6) h2 (by rw [List.all_append, o2, o5]; rfl)
  · cases hok
end Go.Proofs.Ytdmagcdkklacdaa.Ev

/-! What has to hold: printed by the evaluator. -/
set_option linter.unusedVariables false
set_option maxRecDepth 1000000
namespace Go.Proofs.Ytdmagcdkklacdaa.Ev
open Go Go.Proofs
def lvFr : AX → List Nat := fun x => match x with
  | .ret => [4, 5]
  | _ => [4, 6, 7]
def FFr (k n : Nat) (ls : List Ld) : AFr := mkF 42 [(4, .pointer (some ⟨2, 0, none⟩)), (6, .slice (some ⟨3, 0, some k⟩) n 0), (7, .slice (some ⟨4, 0, some 0⟩) ls.length 1)]
def SFr (l m a : List U8) (ls : List Ld) : ASt := mkS [some (rowO .look l), some (rowO .look m), some (.cells [.slice none 0 0, .bool false] true 0), some (rowO .mine a), some (rowO .mine ls)]
def FFrB (ls : List Ld) : AFr := mkF 42 [(4, .pointer (some ⟨2, 0, none⟩)), (5, .slice (some ⟨3, 0, some 0⟩) ls.length 1)]
def SFrB (l m : List U8) (ls : List Ld) : ASt := mkS [some (rowO .look l), some (rowO .look m), some (.cells [.slice none 0 0, .bool true] true 0), some (rowO .mine ls)]
def FFrN (ls : List Ld) : AFr := mkF 42 [(4, .pointer (some ⟨2, 0, none⟩)), (5, .slice (some ⟨4, 0, some 0⟩) ls.length 1)]
def SFrN (l m a : List U8) (k n : Nat) (ls : List Ld) : ASt := mkS [some (rowO .look l), some (rowO .look m), some (.cells [.slice (some ⟨3, 0, some k⟩) n 0, .bool false] true 0), some (rowO .mine a), some (rowO .mine ls)]
def kFd' (a : List U8) : Nat := a.length - (fd a).2.1.length
def exFr (l m : List U8) : Nat → Kt → Prop := fun b K => ((fd (l ++ m)).2.2 = 2 → K .ret (FFrB (fd (l ++ m)).1) (SFrB l m (fd (l ++ m)).1)) ∧ ((fd (l ++ m)).2.2 = 11 → K .ret (FFrN (fd (l ++ m)).1) (SFrN l m (l ++ m) (kFd' (l ++ m)) (fd (l ++ m)).2.1.length (fd (l ++ m)).1))
def shpFrB (l m : List U8) (ls : List Ld) : AFr × ASt := (FFrB ls, SFrB l m ls)
theorem vc_fr (l m : List U8) (c d : Nat) (β : Bs) (K : AE → List (Option AObj) → Prop) : lawE Try.prog toldQ 100 20 β (fun _ => 0) (cnOf 2 fun _ => [4, 6, 7]) (exFr l m) 10 [.agg ⟨[.slice (some ⟨0, 0, some 0⟩) l.length c, .bool false]⟩, .slice (some ⟨1, 0, some 0⟩) m.length d] (mkS [some (rowO .look l), some (rowO .look m)]) (outK K) =
(  need (true && Nat.ble (0 + List.length l) (List.length l))
  (need (Nat.ble (0 + List.length l) 1000000)
  (need (true && Nat.ble (0 + List.length m) (List.length m))
  (need (Nat.ble (List.length l + List.length m) 1000000)
  (need (true && Nat.ble (0 + List.length l) (List.length l))
  (LoopJ Try.prog β (exFr l m) 0 (loopOf Try.prog 10 0)
  (mkF 42
  [(4, Value.pointer (some (Addr.mk 2 0 none))),
  (6,
  Value.slice (some (Addr.mk 3 0 (some 0))) (List.length l + List.length m)
  0),
  (7, Value.slice none 0 0)])
  (mkS
  [some (AObj.row Rk.look 1 0 (List.length l) (encL l)),
  some (AObj.row Rk.look 1 0 (List.length m) (encL m)),
  some (AObj.cells [Value.slice none 0 0, Value.bool false] true 0),
  some
  (AObj.row Rk.mine 1 0 (List.length l + List.length m) fun j k =>
  mrgT (Nat.blt j (List.length l)) (encL l (0 + (0 + j)) k)
  (encL m (0 + (j - List.length l)) k))]) ∧
  (Prod.snd (Prod.snd (fd (l ++ m))) = 2 →
  K
  (AE.returned
  (Value.tuple
  (Array.mk
  [Value.agg (Array.mk [Value.slice none 0 0, Value.bool true]),
  Value.slice (some (Addr.mk 3 0 (some 0)))
  (List.length (Prod.fst (fd (l ++ m)))) 1])))
  [some (AObj.row Rk.look 1 0 (List.length l) (encL l)),
  some (AObj.row Rk.look 1 0 (List.length m) (encL m)),
  some (AObj.cells [Value.slice none 0 0, Value.bool true] true 0),
  some
  (AObj.row Rk.mine 1 0 (List.length (Prod.fst (fd (l ++ m))))
  (encL (Prod.fst (fd (l ++ m)))))]) ∧
  (Prod.snd (Prod.snd (fd (l ++ m))) = 11 →
  K
  (AE.returned
  (Value.tuple
  (Array.mk
  [Value.agg
  (Array.mk
  [Value.slice (some (Addr.mk 3 0 (some (kFd' (l ++ m)))))
  (List.length (Prod.fst (Prod.snd (fd (l ++ m))))) 0,
  Value.bool false]),
  Value.slice (some (Addr.mk 4 0 (some 0)))
  (List.length (Prod.fst (fd (l ++ m)))) 1])))
  [some (AObj.row Rk.look 1 0 (List.length l) (encL l)),
  some (AObj.row Rk.look 1 0 (List.length m) (encL m)),
  some
  (AObj.cells
  [Value.slice (some (Addr.mk 3 0 (some (kFd' (l ++ m)))))
  (List.length (Prod.fst (Prod.snd (fd (l ++ m))))) 0,
  Value.bool false]
  true 0),
  some (AObj.row Rk.mine 1 0 (List.length (l ++ m)) (encL (l ++ m))),
  some
  (AObj.row Rk.mine 1 0 (List.length (Prod.fst (fd (l ++ m))))
  (encL (Prod.fst (fd (l ++ m)))))]))))))) := by kernel_rfl
theorem vc_frb (m : List U8) (d : Nat) (β : Bs) (K : AE → ASt → Prop) : lawE Try.prog toldQ 100 20 β (fun _ => 0) (cnOf 1 fun _ => [4, 6, 7]) (fun _ _ => False) 10 [.agg ⟨[.slice none 0 0, .bool true]⟩, .slice (some ⟨0, 0, some 0⟩) m.length d] (mkS [some (rowO .look m)]) K =
(  K
  (AE.returned
  (Value.tuple
  (Array.mk
  [Value.agg (Array.mk [Value.slice none 0 0, Value.bool true]),
  Value.slice none 0 0])))
  (ASt.set
  (Prod.snd
  ([Value.slice none 0 0, Value.bool true],
  Prod.snd
  ([Value.bool true],
  ASt.new
  (ASt.new (mkS [some (rowO Rk.look m)])
  (AObj.cells
  (cellsL
  (AFr.ev
  (AFr.mk
  (maxN
  (List.length
  [Value.agg (Array.mk [Value.slice none 0 0, Value.bool true]),
  Value.slice (some (Addr.mk 0 0 (some 0))) (List.length m) d])
  (Func.ntmps Try.f10))
  (args0
  [Value.agg (Array.mk [Value.slice none 0 0, Value.bool true]),
  Value.slice (some (Addr.mk 0 0 (some 0))) (List.length m) d]
  0 Tr.leaf)
  [])
  (Operand.tmp 0)))
  true 0))
  (AObj.cells
  (Array.toList (Value.cells (Value.agg #[Value.slice none 0 0, Value.bool false]))) true
  0))))
  (Addr.block
  (Addr.mk
  (ASt.next
  (ASt.new (mkS [some (rowO Rk.look m)])
  (AObj.cells
  (cellsL
  (AFr.ev
  (AFr.mk
  (maxN
  (List.length
  [Value.agg (Array.mk [Value.slice none 0 0, Value.bool true]),
  Value.slice (some (Addr.mk 0 0 (some 0))) (List.length m) d])
  (Func.ntmps Try.f10))
  (args0
  [Value.agg (Array.mk [Value.slice none 0 0, Value.bool true]),
  Value.slice (some (Addr.mk 0 0 (some 0))) (List.length m) d]
  0 Tr.leaf)
  [])
  (Operand.tmp 0)))
  true 0)))
  0 none))
  (some (AObj.cells [Value.slice none 0 0, Value.bool true] true 0)))) := by kernel_rfl
theorem vc_fr_r (l m a : List U8) (k n : Nat) (ls : List Ld) (β : Bs) (N : Kt) (ex : Nat → Kt → Prop) : roundJ Try.prog toldQ 100 20 β (fun _ => 0) (cnOf 2 fun _ => [4, 6, 7]) ex 10 0 2 lvFr (FFr k n ls) (SFr l m a ls) N =
(  need (Nat.ble 0 k && Nat.ble (k + n) (List.length a))
  (need (ok1 U8 (fun l x => List.all l (okA U8)) [Ta.cell (Td.fr 1 n 0 fun i => encL a (k + i))])
  (br (Int.ofNat (tkE (listT U8 (Td.fr 1 n 0 fun i => encL a (k + i)))) == (2 : Int))
  (onP N AX.ret (shpFrB l m ls))
  (br (Int.ofNat (tkE (listT U8 (Td.fr 1 n 0 fun i => encL a (k + i)))) != (0 : Int))
  (N AX.ret
  (mkF 42
  [(4, Value.pointer (some (Addr.mk 2 0 none))),
  (5,
  Value.slice (some (Addr.mk 4 0 (some 0))) (List.length ls) 1)])
  (mkS
  [some (AObj.row Rk.look 1 0 (List.length l) (encL l)),
  some (AObj.row Rk.look 1 0 (List.length m) (encL m)),
  some
  (AObj.cells [Value.slice (some (Addr.mk 3 0 (some k))) n 0, Value.bool false]
  true 0),
  some (AObj.row Rk.mine 1 0 (List.length a) (encL a)),
  some (AObj.row Rk.mine 1 0 (List.length ls) (encL ls))]))
  (need
  (true &&
  Nat.ble (0 + List.length (tkL (listT U8 (Td.fr 1 n 0 fun i => encL a (k + i)))))
  (List.length (tkL (listT U8 (Td.fr 1 n 0 fun i => encL a (k + i))))))
  (need (Nat.ble (List.length ls + 1) 1000000)
  (need (true && Nat.ble (0 + List.length ls) (List.length ls))
  (need
  (Nat.ble (Int.toNat (Int.ofNat (tkN (listT U8 (Td.fr 1 n 0 fun i => encL a (k + i))))))
  n)
  (N AX.normal
  (mkF 42
  [(4, Value.pointer (some (Addr.mk 2 0 none))),
  (6,
  Value.slice
  (some
  (Addr.mk 3 0
  (some
  (k +
  Int.toNat
  (Int.ofNat
  (tkN (listT U8 (Td.fr 1 n 0 fun i => encL a (k + i)))))))))
  (n -
  Int.toNat
  (Int.ofNat (tkN (listT U8 (Td.fr 1 n 0 fun i => encL a (k + i))))))
  (bif Nat.beq n 0 then 0 else 0)),
  (7,
  Value.slice (some (Addr.mk 4 0 (some 0))) (List.length ls + 1)
  1)])
  (mkS
  [some (AObj.row Rk.look 1 0 (List.length l) (encL l)),
  some (AObj.row Rk.look 1 0 (List.length m) (encL m)),
  some (AObj.cells [Value.slice none 0 0, Value.bool false] true 0),
  some (AObj.row Rk.mine 1 0 (List.length a) (encL a)),
  some
  (AObj.row Rk.mine 1 0 (List.length ls + 1) fun j k_1 =>
  mrgT (Nat.blt j (List.length ls)) (encL ls (0 + j) k_1)
  (selT 1 1
  [Td.fr 1
  (List.length (tkL (listT U8 (Td.fr 1 n 0 fun i => encL a (k + i)))))
  (tkC (listT U8 (Td.fr 1 n 0 fun i => encL a (k + i)))) fun i =>
  encL (tkL (listT U8 (Td.fr 1 n 0 fun i => encL a (k + i))))
  (0 + i)]
  (j - List.length ls) k_1))])))))))))) := by kernel_rfl
end Go.Proofs.Ytdmagcdkklacdaa.Ev

/-! ref16.AddFeed: which frames come of bytes that come. -/
set_option linter.unusedVariables false
set_option linter.unusedSimpArgs false
namespace Go.Proofs.Ytdmagcdkklacdaa.Ev
open Go Go.Proofs Go.RowKit

theorem fr_loop {l m : List U8} {β : Bs} (hβ : β.X.length = 2) (hlen : (l ++ m).length ≤ 1000000) (hok : (l ++ m).all (okA U8) = true) :
    LoopJ Try.prog β (exFr l m) 0 (loopOf Try.prog 10 0) (FFr 0 ((l ++ m).length - 0) []) (SFr l m (l ++ m) []) := by
  refine loop_rule (IFd (l ++ m)) (fun p => FFr p.1 ((l ++ m).length - p.1) p.2) (fun p => SFr l m (l ++ m) p.2) (fun p => (l ++ m).length - p.1) (fun p hp K hK => ?_) (0, []) (IFd_0 _)
  obtain ⟨k, ls⟩ := p
  have hK : ((fd (l ++ m)).2.2 = 2 → K .ret (FFrB (fd (l ++ m)).1) (SFrB l m (fd (l ++ m)).1)) ∧ ((fd (l ++ m)).2.2 = 11 → K .ret (FFrN (fd (l ++ m)).1) (SFrN l m (l ++ m) (kFd' (l ++ m)) (fd (l ++ m)).2.1.length (fd (l ++ m)).1)) := hK
  have hgo := fun h => IFd_go hp h
  have hstop := fun h => IFd_stop hp h
  have hk : k ≤ (l ++ m).length := hp.1
  have hls : ls.length ≤ k := hp.2.2
  generalize l ++ m = a at *
  have hgoal : roundJ Try.prog toldQ 100 20 β (fun _ => 0) (cnOf 2 fun _ => [4, 6, 7]) (fun _ _ => False) 10 0 2 lvFr (FFr k (a.length - k) ls) (SFr l m a ls) (Nn β (IFd a) (fun p => a.length - p.1) (fun p => FFr p.1 (a.length - p.1) p.2) (fun p => SFr l m a p.2) (k, ls) K) → J Try.prog β (loopOf Try.prog 10 0) (FFr k (a.length - k) ls) (SFr l m a ls) (Nn β (IFd a) (fun p => a.length - p.1) (fun p => FFr p.1 (a.length - p.1) p.2) (fun p => SFr l m a p.2) (k, ls) K) := fun h => roundJ_ok follows toldQ_ok hβ h
  refine hgoal ?_
  rw [vc_fr_r]
  have L1 := listU_drop a 0 hk
  have o1 := ok1_mid (c := 0) hok (k := k) (n := a.length - k) (by omega) (by omega) (by omega)
  have b0 : Nat.ble 0 k = true := by simp
  have b1 : Nat.ble (k + (a.length - k)) a.length = true := Nat.ble_eq_true_of_le (by omega)
  have i0 : ∀ n : Nat, Int.toNat (Int.ofNat n) = n := fun n => Int.toNat_natCast n
  simp only [L1, o1, b0, b1, Bool.true_and, need_t, i0]
  rcases tkE_cases (a.drop k) with h0 | h0 | h0
  · have ht : (Int.ofNat (tkE (a.drop k)) != (0 : Int)) = false := by rw [h0]; rfl
    have ht2 : (Int.ofNat (tkE (a.drop k)) == (2 : Int)) = false := by rw [h0]; rfl
    obtain ⟨g1, g2⟩ := hgo h0
    have hN : tkN (a.drop k) = lenU (a.drop k) + 6 := by unfold tkN; rw [if_pos h0]
    have hL : tkL (a.drop k) = midU (a.drop k) := by unfold tkL; rw [if_pos h0]
    have hC : tkC (a.drop k) = 0 := by unfold tkC; rw [if_pos h0]
    have b3 : Nat.ble (lenU (a.drop k) + 6) (a.length - k) = true := Nat.ble_eq_true_of_le (by omega)
    have b4 : Nat.ble (ls.length + 1) 1000000 = true := Nat.ble_eq_true_of_le (by omega)
    have z1 : Nat.beq (a.length - k) 0 = false := beq_false (by omega)
    simp only [ht, ht2, br_f, hN, hL, hC, b3, b4, need_t, Nat.zero_add, bleS, Bool.true_and, z1, cond_false]
    refine .inl ⟨rfl, (k + (lenU (a.drop k) + 6), ls ++ [⟨midU (a.drop k), 0⟩]), g1, by show a.length - (k + (lenU (a.drop k) + 6)) < a.length - k; omega, ?_⟩
    have hF : FFr (k + (lenU (a.drop k) + 6)) (a.length - (k + (lenU (a.drop k) + 6))) (ls ++ [⟨midU (a.drop k), 0⟩]) = mkF 42 [(4, .pointer (some ⟨2, 0, none⟩)), (6, .slice (some ⟨3, 0, some (k + (lenU (a.drop k) + 6))⟩) (a.length - k - (lenU (a.drop k) + 6)) 0), (7, .slice (some ⟨4, 0, some 0⟩) (ls.length + 1) 1)] := by
      unfold FFr
      rw [List.length_append, Nat.sub_sub]; rfl
    show Seen β _ _ (FFr (k + (lenU (a.drop k) + 6)) (a.length - (k + (lenU (a.drop k) + 6))) (ls ++ [⟨midU (a.drop k), 0⟩])) (SFr l m a (ls ++ [⟨midU (a.drop k), 0⟩]))
    rw [hF]
    refine Seen.objs rfl fun q o2 h => ?_
    match q, h with
    | 0, h => cases h; exact ⟨_, rfl, rfl, fun _ _ _ h => h⟩
    | 1, h => cases h; exact ⟨_, rfl, rfl, fun _ _ _ h => h⟩
    | 2, h => cases h; exact ⟨_, rfl, rfl, fun _ _ _ h => h⟩
    | 3, h => cases h; exact ⟨_, rfl, rfl, fun _ _ _ h => h⟩
    | 4, h =>
      cases h
      refine ⟨_, rfl, rfl, fun ρ s' w' h => row_app (α := Ld) (es := 1) (n := ls.length) (g := fun i j => encL ls i j) (ts := _) rfl rfl (fun i j => rfl) (fun j hj => ?_) (by simpa only [Nat.zero_add] using h)⟩
      match j, hj with
      | 0, _ => rfl
  · have ht2 : (Int.ofNat (tkE (a.drop k)) == (2 : Int)) = true := by rw [h0]; rfl
    obtain ⟨e1, e2, e3, e4⟩ := hstop (by omega)
    simp only [ht2, br_t]
    have hK1 := hK.1 (by omega)
    rw [e1] at hK1
    exact Nn.ret (Seen.refl _ _ _) hK1
  · have ht : (Int.ofNat (tkE (a.drop k)) != (0 : Int)) = true := tkE_t h0 (by omega)
    have ht2 : (Int.ofNat (tkE (a.drop k)) == (2 : Int)) = false := by rw [h0]; rfl
    obtain ⟨e1, e2, e3, e4⟩ := hstop (by omega)
    simp only [ht, ht2, br_t, br_f]
    have hK1 := hK.2 (by omega)
    have e3 : kFd' a = k := e3
    rw [e1, e3, e4] at hK1
    refine Nn.ret (Seen.refl _ _ _) ?_
    exact hK1
def frC (q : Bool) (l m : List U8) : Nat := cond q 1 (cond (Nat.beq (fd (l ++ m)).2.2 2) 1 0)
def frA (q : Bool) (l : List U8) (m : List U8) : Ans := .rets [.agg [ownL (fdB q l m) (frC q l m), .sc (.bool (fdQ q l m))], .cell (ownL (fdL q l m) 1)]
def okFr (ts : List Ta) : Bool := match ts with
  | [.agg [a, q], .cell b] => okT U8 a && (listT U8 a).all (okA U8) && boolOk q && (okT U8 b && (listT U8 b).all (okA U8)) && Nat.ble ((listT U8 a).length + (listT U8 b).length) 1000000 && cond (boolD q) (Nat.beq (listT U8 a).length 0 && Nat.beq (nilT a) 1) true
  | _ => false
def ansFr (ts : List Ta) : Ans := match ts with
  | [.agg [a, q], .cell b] => frA (boolD q) (listT U8 a) (listT U8 b)
  | _ => .pan .nilIface
theorem fr_law {l m : List U8} {c d : Nat} {β : Bs} (hβ : β.X.length = 2) (hlen : l.length + m.length ≤ 1000000) (hok : (l ++ m).all (okA U8) = true) :
    lawE Try.prog toldQ 100 20 β (fun _ => 0) (cnOf 2 fun _ => [4, 6, 7]) (exFr l m) 10 [.agg ⟨[.slice (some ⟨0, 0, some 0⟩) l.length c, .bool false]⟩, .slice (some ⟨1, 0, some 0⟩) m.length d] (mkS [some (rowO .look l), some (rowO .look m)]) (outR (ansE (frA false l m))) := by
  show lawE _ _ _ _ _ _ _ _ _ _ _ (outK fun r M => ∃ m2, objsR M m2 ∧ ansE (frA false l m) r (mkS m2))
  rw [vc_fr]
  have hl2 : (l ++ m).length = l.length + m.length := List.length_append
  have b1 : Nat.ble (l.length + m.length) 1000000 = true := Nat.ble_eq_true_of_le hlen
  have b2 : Nat.ble l.length 1000000 = true := Nat.ble_eq_true_of_le (by omega)
  have hr := fd_rest (l ++ m)
  have hloop := fr_loop (l := l) (m := m) hβ (by omega) hok
  simp only [br_f, need_t, Nat.zero_add, bleS, b1, b2, Bool.true_and]
  have hR := ((RowU.enc l).app (RowU.enc m)).to rfl rfl
  refine ⟨LoopJ.seen ?_ hloop, fun h2 => ?_, fun h2 => ?_⟩
  · simp only [← hl2]
    refine Seen.trans (Seen.nilSlot (f' := FFr 0 (l ++ m).length []) 7 1 (encL ([] : List Ld)) rfl rfl rfl fun t v h => ?_) (Seen.objs rfl fun q o2 h => ?_)
    · rcases mkFT_get _ _ t v h with h1 | h1
      · simp at h1
        rcases h1 with ⟨rfl, rfl⟩ | ⟨rfl, rfl⟩ | ⟨rfl, rfl⟩
        · exact .inr rfl
        · exact .inr (by rw [← hl2]; rfl)
        · exact .inl ⟨rfl, rfl⟩
      · cases h1
    · match q, h with
      | 0, h => cases h; exact ⟨_, rfl, rfl, fun _ _ _ h => h⟩
      | 1, h => cases h; exact ⟨_, rfl, rfl, fun _ _ _ h => h⟩
      | 2, h => cases h; exact ⟨_, rfl, rfl, fun _ _ _ h => h⟩
      | 3, h => cases h; exact ⟨_, rfl, rfl, fun _ _ _ h => (hR.to (by simp) rfl).obj _ _ _ h⟩
      | 4, h => cases h; exact ⟨_, rfl, rfl, fun _ _ _ h => h⟩
  · obtain ⟨m2, g1, g2⟩ := fd_bad (l := l) (m := m) (c := 1) (k := 3) (M := [some (.row .look 1 0 l.length (encL l)), some (.row .look 1 0 m.length (encL m)), some (.cells [.slice none 0 0, .bool true] true 0), some (.row .mine 1 0 (fd (l ++ m)).1.length (encL (fd (l ++ m)).1))]) h2 rfl
    refine ⟨m2, g1, ?_⟩
    have : frC false l m = fdC false l 1 m := by show cond false _ (cond (Nat.beq (fd (l ++ m)).2.2 2) _ _) = cond false _ (cond (Nat.beq (fd (l ++ m)).2.2 2) _ _); rw [h2]; rfl
    unfold frA; rw [this]; exact g2
  · refine fd_none (k := 4) (kb := 3) (by omega) h2 rfl rfl rfl ?_ (fun i hi => rfl) (fun _ => ?_)
    · show kFd (l ++ m) + _ ≤ _
      omega
    · show _ = cond false _ (cond (Nat.beq (fd (l ++ m)).2.2 2) _ _); rw [h2]; rfl
theorem fr_told : ToldW Try.prog 10 okFr ansFr := by
  intro ts hok w args' F hF ha
  unfold okFr at hok
  split at hok
  · rename_i a q b
    simp only [Bool.and_eq_true] at hok
    obtain ⟨⟨⟨⟨⟨o1, o2⟩, o3⟩, o4, o5⟩, o6⟩, o7⟩ := hok
    obtain ⟨y, m, e, hy, hm'⟩ := ha.uncons
    obtain ⟨z, m', rfl, hz, hm2⟩ := hm'.uncons
    have := hm2.nil_inv
    subst this
    obtain ⟨arr, rfl, hy⟩ := hy
    obtain ⟨h1, h2⟩ := okT_len o1
    obtain ⟨h3, h4⟩ := okT_len o4
    obtain ⟨y1, m1, e1, k1, hm1⟩ := hy.uncons
    obtain ⟨y2, m2, rfl, k2, hm2⟩ := hm1.uncons
    rw [hm2.nil_inv] at e1
    have k2 : TRo w F (.sc (.bool (boolD q))) y2 := by rw [← boolOk_inv o3]; exact k2
    have k1 := okT_TRo o1 k1
    show Calls _ _ _ _ fun e w' => AnsR w F (frA (boolD q) (listT U8 a) (listT U8 b)) e w'
    cases hq : boolD q with
    | false =>
      rw [hq] at k2
      have hy' : PW (TRo w F) [tdL (listT U8 a) (nilT a), .sc (.bool false)] arr.toList := by
        rw [e1]; exact PW.cons k1 (PW.cons k2 (PW.nil _))
      have ha' : PW (TaR w F) [.agg [tdL (listT U8 a) (nilT a), .sc (.bool false)], .cell (tdL (listT U8 b) (nilT b))] args'.toList := by rw [e]; exact PW.cons ⟨arr, rfl, hy'⟩ (PW.cons (okT_TRo o4 hz) (PW.nil _))
      refine toldW_out (ts := [.agg [tdL (listT U8 a) (nilT a), .sc (.bool false)], .cell (tdL (listT U8 b) (nilT b))]) follows ⟨toldQ, 100, 20, fun _ => 0, fun _ => [4, 6, 7], exFr (listT U8 a) (listT U8 b), toldQ_ok, fun β hβ => ?_⟩ w args' F hF ha'
      exact fr_law (l := listT U8 a) (m := listT U8 b) (c := nilT a) (d := nilT b) hβ (Nat.le_of_ble_eq_true o6) (by rw [List.all_append, o2, o5]; rfl)
    | true =>
      rw [hq] at k2
      rw [hq] at o7
      simp only [cond_true, Bool.and_eq_true] at o7
      have n1 := Nat.eq_of_beq_eq_true o7.1
      have n2 := Nat.eq_of_beq_eq_true o7.2
      have hnil : listT U8 a = [] := List.eq_nil_of_length_eq_zero n1
      have hy1 : y1 = .slice none 0 0 := by
        rcases k1 with h | h | h
        · exact h.2.2
        · have := h.2.1; omega
        · have := h.1; omega
      subst hy1
      have hy' : PW (TRo w F) [.sc (.slice none 0 0), .sc (.bool true)] arr.toList := by
        rw [e1]; exact PW.cons (show VR noRho (.slice none 0 0) (.slice none 0 0) from .sliceNil) (PW.cons k2 (PW.nil _))
      have ha' : PW (TaR w F) [.agg [.sc (.slice none 0 0), .sc (.bool true)], .cell (tdL (listT U8 b) (nilT b))] args'.toList := by rw [e]; exact PW.cons ⟨arr, rfl, hy'⟩ (PW.cons (okT_TRo o4 hz) (PW.nil _))
      rw [hnil]
      refine toldW_at (ts := [.agg [.sc (.slice none 0 0), .sc (.bool true)], .cell (tdL (listT U8 b) (nilT b))]) follows ⟨toldQ, 100, 20, fun _ => 0, fun _ => [4, 6, 7], fun _ _ => False, toldQ_ok, fun β hβ => ?_⟩ w args' F hF ha'
      have hv := vc_frb (listT U8 b) (nilT b) β (ansE (frA true [] (listT U8 b)))
      show lawE _ _ _ _ _ _ (cnOf 1 fun _ => [4, 6, 7]) _ _ [.agg ⟨[.slice none 0 0, .bool true]⟩, .slice (some ⟨0, 0, some 0⟩) (listT U8 b).length (nilT b)] (mkS [some (rowO .look (listT U8 b))]) _
      rw [hv]
      exact ⟨_, [], rfl, ⟨[], [], rfl, ⟨_, rfl, [], [], rfl, raE_nil _, [], [], rfl, ⟨rfl, rfl, rfl⟩, rfl⟩, [], [], rfl, raE_nil _, rfl⟩, by simp⟩
  · cases hok
def toldF : Told := (toldQ.tree 9 okFd ansFd).tree 10 okFr ansFr
theorem toldF_ok : ToldS Try.prog toldF := Told.tree_ok (Told.tree_ok toldQ_ok fd_told) fr_told
end Go.Proofs.Ytdmagcdkklacdaa.Ev

/-! Feeds: what is told; which loads come of bytes. -/
set_option linter.unusedVariables false
set_option linter.unusedSimpArgs false
namespace Go.Proofs.Ytdmagcdkklacdaa.Ev
open Go Go.Proofs Go.RowKit

def toldG : Told := (toldF.tree 12 (ok2 Ld Ld fun l _ m _ => l.all (okA Ld) && m.all (okA Ld)) (ans2 Ld Ld fun l _ m _ => bAns (sameLs l m))).tree 8 (ok1 Ld fun l _ => l.all (okA Ld) && Nat.ble l.length 1000) (ans1 Ld fun l _ => .ret (.cell (ownL (loadsN l l.length) 1)))
theorem toldG_ok : ToldS Try.prog toldG := Told.tree_ok (Told.tree_ok toldF_ok sl_told) ld_told
/-- named anew -/
theorem Seen.canon {β : Bs} {E : Nat} {slots : List Nat} {f F : AFr} {st S : ASt} (hβ : β.X.length = E) (h : ∀ K : AFr → ASt → Prop, canonK E slots K f st = K F S) : Seen β f st F S := fun ρ a w hr => by
  have h1 : canonK E slots (fun f1 st1 => f1 = F ∧ st1 = S) f st := by rw [h]; exact ⟨rfl, rfl⟩
  obtain ⟨ρ', f', st', ⟨rfl, rfl⟩, h2⟩ := canonK_ok h1 hβ hr
  exact ⟨ρ', h2⟩
theorem get_appU {l m : List U8} {i : Nat} (h : i < l.length) : (l ++ m).getD i Enc.dflt = l.getD i Enc.dflt := getD_app_lt l m _ h
theorem lenU_app {l m : List U8} (h : 2 ≤ l.length) : lenU (l ++ m) = lenU l := by
  unfold lenU; rw [get_appU (by omega), get_appU (by omega)]
theorem midU_app {l m : List U8} (h : 2 + lenU l ≤ l.length) : midU (l ++ m) = midU l := by
  unfold midU
  rw [lenU_app (by omega), List.drop_append_of_le_length (by omega), List.take_append_of_le_length (by simp; omega)]
theorem tkE_app {l m : List U8} (h : tkE l ≠ 11) : tkE (l ++ m) = tkE l := by
  unfold tkE at h ⊢
  by_cases h1 : l.length < 2
  · rw [if_pos h1] at h; exact absurd rfl h
  · rw [if_neg h1] at h
    have h1' : ¬ (l ++ m).length < 2 := by rw [List.length_append]; omega
    rw [if_neg h1, if_neg h1', lenU_app (by omega)]
    by_cases h2 : 200 < lenU l
    · rw [if_pos h2, if_pos h2]
    · rw [if_neg h2] at h
      rw [if_neg h2, if_neg h2]
      by_cases h3 : l.length < lenU l + 6
      · rw [if_pos h3] at h; exact absurd rfl h
      · have h3' : ¬ (l ++ m).length < lenU l + 6 := by rw [List.length_append]; omega
        rw [if_neg h3, if_neg h3', midU_app (by omega), List.take_append_of_le_length (by omega)]
def FdApp (l : List U8) : Prop := ∀ m, ((fd l).2.2 = 11 → fd (l ++ m) = ((fd l).1 ++ (fd ((fd l).2.1 ++ m)).1, (fd ((fd l).2.1 ++ m)).2)) ∧ ((fd l).2.2 ≠ 11 → (fd (l ++ m)).1 = (fd l).1 ∧ (fd (l ++ m)).2.2 = (fd l).2.2)
theorem fd_app : ∀ l : List U8, FdApp l := by
  refine fd_ind FdApp (fun l h m => ?_) (fun l h ih m => ?_)
  · rw [fd_stop h]
    refine ⟨fun h2 => by simp, fun h2 => ?_⟩
    have h2 : tkE l ≠ 11 := h2
    have e := tkE_app (m := m) h2
    rw [fd_stop (by rw [e]; exact h)]
    exact ⟨rfl, e⟩
  · have h6 := tkE_len h
    have e : tkE (l ++ m) = 0 := by rw [tkE_app (by omega), h]
    have e1 := fd_go e
    have e2 := fd_go h
    rw [lenU_app (by omega), midU_app (by omega), List.drop_append_of_le_length (by omega)] at e1
    rw [e1, e2]
    obtain ⟨i1, i2⟩ := ih m
    refine ⟨fun h2 => ?_, fun h2 => ?_⟩
    · rw [i1 h2]; rfl
    · obtain ⟨j1, j2⟩ := i2 h2
      exact ⟨by show _ :: _ = _ :: _; rw [j1], j2⟩
theorem frameU_take (l m : List U8) : (frameU l ++ m).take (l.length + 6) = frameU l := by
  rw [← frameU_len, List.take_append_of_le_length (Nat.le_refl _), List.take_length]
theorem frame_tkE {l m : List U8} (h : l.length ≤ 200) : tkE (frameU l ++ m) = 0 := by
  have hl := frameU_len l
  have h1 : ¬ (frameU l ++ m).length < 2 := by rw [List.length_append]; omega
  unfold tkE
  rw [if_neg h1, frame_lenU h, if_neg (by omega), if_neg (by rw [List.length_append]; omega), frame_mid h, frameU_take, if_pos (sameU_self _)]
theorem fd_frame {l m : List U8} (h : l.length ≤ 200) : fd (frameU l ++ m) = (⟨l, 0⟩ :: (fd m).1, (fd m).2) := by
  rw [fd_go (frame_tkE h), frame_mid h, frame_lenU h]
  have : (frameU l ++ m).drop (l.length + 6) = m := by rw [← frameU_len, List.drop_left']; rfl
  rw [this]
def ldZ (a : Ld) : Ld := ⟨a.l, 0⟩
theorem fd_loads {l : List Ld} (hl : ∀ a ∈ l, a.l.length ≤ 200) : ∀ (k : Nat) (m : List U8), k ≤ l.length → fd (loadsN l k ++ m) = ((l.take k).map ldZ ++ (fd m).1, (fd m).2) := by
  intro k
  induction k with
  | zero => intro m _; simp [loadsN]
  | succ k ih =>
    intro m hk
    have hlk : (l.getD k Enc.dflt).l.length ≤ 200 := hl _ (by simp [List.getD, show k < l.length by omega])
    have hp : putL (l.getD k Enc.dflt).l = frameU (l.getD k Enc.dflt).l := by unfold putL; rw [if_neg (by omega)]
    simp only [loadsN, List.append_assoc]
    rw [ih _ (by omega), hp, fd_frame hlk, take_succ (show k < l.length by omega) (Enc.dflt : Ld)]
    simp [ldZ]
theorem fd_loads_all {l : List Ld} (hl : ∀ a ∈ l, a.l.length ≤ 200) (m : List U8) : fd (loadsN l l.length ++ m) = (l.map ldZ ++ (fd m).1, (fd m).2) := by
  have := fd_loads hl l.length m (Nat.le_refl _)
  rw [List.take_length] at this
  exact this
theorem fd_nil : fd ([] : List U8) = ([], [], 11) := fd_stop (by decide)
theorem map_ldZ (l : List Ld) : (l.map ldZ).map Ld.l = l.map Ld.l := by rw [List.map_map]; rfl
theorem fd_none_of (l : List U8) (h : l.all (okA U8) = true) : (fd l).2.2 ≠ 11 → (fd l).2.2 = 2 := fun h2 => by
  have := fd_ok l h
  exact this.2.2.2.2.1.resolve_right h2
theorem fd_255 (m : List U8) : fd (⟨255⟩ :: ⟨255⟩ :: m) = ([], ⟨255⟩ :: ⟨255⟩ :: m, 2) := by
  have h : tkE (⟨255⟩ :: ⟨255⟩ :: m) = 2 := by
    unfold tkE
    rw [if_neg (by simp), if_pos]
    show 200 < (255 : Int).toNat * 256 + (255 : Int).toNat
    decide
  rw [fd_stop (by omega), h]
def fit40 (a : Ld) : Bool := !(decide (Int.ofNat a.l.length > 40))
def fit30 (a : Ld) : Bool := !(decide (Int.ofNat a.l.length > 30))
theorem okFd_of {a b : Td} {q : Bool} (h1 : okT U8 a = true) (h2 : (listT U8 a).all (okA U8) = true) (h3 : okT U8 b = true) (h4 : (listT U8 b).all (okA U8) = true) (h5 : (listT U8 a).length + (listT U8 b).length ≤ 1000000) : okFd [Ta.agg [a, .sc (.bool q)], Ta.cell b] = true := by
  show (okT U8 a && (listT U8 a).all (okA U8) && true && (okT U8 b && (listT U8 b).all (okA U8)) && Nat.ble ((listT U8 a).length + (listT U8 b).length) 1000000) = true
  rw [h1, h2, h3, h4, Nat.ble_eq_true_of_le h5]; rfl
theorem okT_enc {l : List U8} {c : Nat} (h : l.all (okA U8) = true) (hl : l.length ≤ 1000000) (hc : c ≤ 1) : okT U8 (Td.fr 1 l.length c (encL l)) = true := okT_tdL h hl hc
theorem okT_nil0 : okT U8 (Td.fr 0 0 1 noT) = true := rfl
theorem listT_nil0 : listT U8 (Td.fr 0 0 1 noT) = [] := rfl
theorem ok1_loads {l : List Ld} {c : Nat} (hok : l.all (okA Ld) = true) (hl : l.length ≤ 1000) (hc : c ≤ 1) : ok1 Ld (fun l x => List.all l (okA Ld) && Nat.ble (List.length l) 1000) [Ta.cell (Td.fr 1 l.length c (encL l))] = true := by
  show (okT Ld (tdL l c) && ((listT Ld (tdL l c)).all (okA Ld) && Nat.ble (listT Ld (tdL l c)).length 1000)) = true
  rw [okT_tdL hok (by omega) hc, listT_tdL, hok, Nat.ble_eq_true_of_le hl]; rfl
theorem ok2_same {l m : List Ld} {c d : Nat} (hl : l.all (okA Ld) = true) (hm : m.all (okA Ld) = true) (h1 : l.length ≤ 1000000) (h2 : m.length ≤ 1000000) (hc : c ≤ 1) (hd : d ≤ 1) : ok2 Ld Ld (fun l x m x_1 => List.all l (okA Ld) && List.all m (okA Ld)) [Ta.cell (Td.fr 1 l.length c (encL l)), Ta.cell (Td.fr 1 m.length d (encL m))] = true := by
  show (okT Ld (tdL l c) && okT Ld (tdL m d) && ((listT Ld (tdL l c)).all (okA Ld) && (listT Ld (tdL m d)).all (okA Ld))) = true
  rw [okT_tdL hl h1 hc, okT_tdL hm h2 hd, listT_tdL, listT_tdL, hl, hm]; rfl
theorem fit_all {fit : Ld → Bool} {l : List Ld} {k : Nat} (h : ∀ j, j < k → fit (l.getD j Enc.dflt) = true) (hk : k = l.length) : l.all fit = true := by
  subst hk
  rw [List.all_eq_true]
  intro w hw
  obtain ⟨i, hi, rfl⟩ := List.mem_iff_getElem.1 hw
  have := h i hi
  simpa [List.getD, hi] using this
theorem all_fitLd {l : List Ld} {n : Nat} (hl : ∀ a ∈ l, a.l.all (okA U8) = true ∧ a.c ≤ 1) (h : ∀ a ∈ l, a.l.length ≤ n) (hn : n ≤ 1000000) : l.all (okA Ld) = true := by
  rw [List.all_eq_true]
  exact fun a ha => okA_ld (hl a ha).1 (Nat.le_trans (h a ha) hn) (hl a ha).2
theorem fit40_le {l : List Ld} (h : l.all fit40 = true) : ∀ a ∈ l, a.l.length ≤ 40 := by
  rw [List.all_eq_true] at h
  intro a ha
  have := h a ha
  simp [fit40] at this; omega
theorem fdQ_bad {l m : List U8} (h : (fd (l ++ m)).2.2 = 2) : fdQ false l m = true := by show Nat.beq (fd (l ++ m)).2.2 2 = true; rw [h]; rfl
theorem fdB_bad {l m : List U8} (h : (fd (l ++ m)).2.2 = 2) : fdB false l m = [] := by show cond (Nat.beq (fd (l ++ m)).2.2 2) _ _ = []; rw [h]; rfl
theorem fdC_bad {l m : List U8} {c : Nat} (h : (fd (l ++ m)).2.2 = 2) : fdC false l c m = 1 := by show cond (Nat.beq (fd (l ++ m)).2.2 2) _ _ = 1; rw [h]; rfl
theorem fdQ_none {l m : List U8} (h : (fd (l ++ m)).2.2 = 11) : fdQ false l m = false := by show Nat.beq (fd (l ++ m)).2.2 2 = false; rw [h]; rfl
theorem fdB_none {l m : List U8} (h : (fd (l ++ m)).2.2 = 11) : fdB false l m = (fd (l ++ m)).2.1 := by show cond (Nat.beq (fd (l ++ m)).2.2 2) _ _ = _; rw [h]; rfl
theorem fit30_le {l : List Ld} (h : l.all fit30 = true) : ∀ a ∈ l, a.l.length ≤ 30 := by
  rw [List.all_eq_true] at h
  intro a ha
  have := h a ha
  simp [fit30] at this; omega
/-- two rows of data, one behind the other -/
theorem row_app2 {α : Type} [Enc α] {k : Rk} {l m : List α} {es : Nat} {ρ : Rho} {s : Spot} {w : World} (hes : es = Enc.es α)
    (ho : ObjR ρ (.row k es 0 (l.length + m.length) fun i j => mrgT (Nat.blt i l.length) (encL l i j) (encL m (i - l.length) j)) s w) : ObjR ρ (.row k es 0 (l ++ m).length (encL (l ++ m))) s w := by
  subst hes
  refine ho.row_TR (by simp) fun i _ hi j hj F y ht => ?_
  by_cases hil : i < l.length
  · have hb : Nat.blt i l.length = true := by simpa using hil
    rw [hb] at ht
    show TR w F (Enc.enc ((l ++ m).getD i Enc.dflt) j) y
    rw [getD_app_lt _ _ _ hil]
    exact (Enc.mrg _ _ w F j y hj).1 ht
  · rw [blt_false hil] at ht
    show TR w F (Enc.enc ((l ++ m).getD i Enc.dflt) j) y
    rw [getD_app_ge _ _ _ (by omega)]
    exact (Enc.mrg _ _ w F j y hj).2 ht
/-! how what is told goes together -/
theorem fd_two (A M : List U8) (hA : (fd A).2.2 = 2 ∨ (fd A).2.2 = 11) : fdQ (fdQ false [] A) (fdB false [] A) M = fdQ false [] (A ++ M) ∧ fdB (fdQ false [] A) (fdB false [] A) M = fdB false [] (A ++ M) ∧ fdL false [] A ++ fdL (fdQ false [] A) (fdB false [] A) M = fdL false [] (A ++ M) := by
  obtain ⟨h1, h2⟩ := fd_app A M
  have en : ∀ l : List U8, [] ++ l = l := fun l => rfl
  rcases hA with hA | hA
  · obtain ⟨e1, e2⟩ := h2 (by omega)
    have q1 : fdQ false [] A = true := fdQ_bad (by rw [en]; exact hA)
    have b1 : fdB false [] A = [] := fdB_bad (by rw [en]; exact hA)
    rw [q1, b1]
    have hAM : (fd ([] ++ (A ++ M))).2.2 = 2 := by rw [en, e2]; exact hA
    refine ⟨(fdQ_bad hAM).symm, (fdB_bad hAM).symm, ?_⟩
    show (fd ([] ++ A)).1 ++ [] = (fd ([] ++ (A ++ M))).1
    rw [en, en, e1]; simp
  · have e := h1 hA
    have q1 : fdQ false [] A = false := fdQ_none (by rw [en]; exact hA)
    have b1 : fdB false [] A = (fd A).2.1 := fdB_none (by rw [en]; exact hA)
    rw [q1, b1]
    have e2 : (fd (A ++ M)).2 = (fd ((fd A).2.1 ++ M)).2 := by rw [e]
    refine ⟨?_, ?_, ?_⟩
    · show Nat.beq (fd ((fd A).2.1 ++ M)).2.2 2 = Nat.beq (fd ([] ++ (A ++ M))).2.2 2
      rw [en, e2]
    · show cond (Nat.beq (fd ((fd A).2.1 ++ M)).2.2 2) [] (fd ((fd A).2.1 ++ M)).2.1 = cond (Nat.beq (fd ([] ++ (A ++ M))).2.2 2) [] (fd ([] ++ (A ++ M))).2.1
      rw [en, e2]
    · show (fd ([] ++ A)).1 ++ (fd ((fd A).2.1 ++ M)).1 = (fd ([] ++ (A ++ M))).1
      rw [en, en, e]
theorem fd_start (A : List U8) : fdQ false [] ([] ++ A) = fdQ false [] A := rfl
/-- of what is told all is good -/
theorem fd_good {q : Bool} {X M : List U8} (hX : X.all (okA U8) = true) (hM : M.all (okA U8) = true) (hXl : X.length ≤ 205) :
    (fdB q X M).all (okA U8) = true ∧ (fdB q X M).length ≤ 205 ∧ (fdL q X M).all (okA Ld) = true ∧ (fdL q X M).length ≤ X.length + M.length := by
  cases q with
  | true => exact ⟨hX, hXl, rfl, Nat.zero_le _⟩
  | false =>
    have hXM : (X ++ M).all (okA U8) = true := by rw [List.all_append, hX, hM]; rfl
    obtain ⟨f1, f2, f3, f4, f5, f6⟩ := fd_ok (X ++ M) hXM
    rw [List.length_append] at f4
    rcases f5 with h | h
    · rw [fdB_bad h]
      exact ⟨rfl, by simp, f1, f4⟩
    · rw [fdB_none h]
      exact ⟨f2, f6 h, f1, f4⟩
theorem fdC_le {q : Bool} {X M : List U8} {c : Nat} (hc : c ≤ 1) : fdC q X c M ≤ 1 := by
  unfold fdC
  cases q with
  | true => exact hc
  | false =>
    show cond _ 1 (c0Fd _) ≤ 1
    cases Nat.beq (fd (X ++ M)).2.2 2 with
    | true => exact Nat.le_refl _
    | false => show c0Fd _ ≤ 1; unfold c0Fd; split <;> omega
end Go.Proofs.Ytdmagcdkklacdaa.Ev
