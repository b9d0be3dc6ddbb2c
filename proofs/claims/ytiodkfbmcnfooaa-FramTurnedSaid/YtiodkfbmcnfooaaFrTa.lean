/-
  fram.Take, ref16.TakeFrame: told to the evaluator.
-/
import Derived.Test.YtiodkfbmcnfooaaFrTV
import Derived.Test.YtiodkfbmcnfooaaFrUV
set_option linter.unusedVariables false
set_option linter.unusedSimpArgs false
set_option maxRecDepth 100000
namespace Go.Proofs.Ytiodkfbmcnfooaa.Ev
open Go Go.Proofs Go.RowKit

def lenU (l : List U8) : Nat := (l.getD 0 Enc.dflt).v.toNat * 256 + (l.getD 1 Enc.dflt).v.toNat
def midU (l : List U8) : List U8 := (l.drop 2).take (lenU l)
/-- is a frame there? 0, 2, 11: as the numbers of errors -/
def tkE (l : List U8) : Nat := if l.length < 2 then 11 else if 200 < lenU l then 2 else if l.length < lenU l + 6 then 11 else if sameU (frameU (midU l)) (l.take (lenU l + 6)) then 0 else 2
def tkL (l : List U8) : List U8 := if tkE l = 0 then midU l else []
def tkN (l : List U8) : Nat := if tkE l = 0 then lenU l + 6 else 0
def tkC (l : List U8) : Nat := if tkE l = 0 then 0 else 1
def tkA (l : List U8) (_ : Nat) : Ans := .rets [.cell (ownL (tkL l) (tkC l)), .cell (.sc (.int .i64 (tkN l : Nat))), .cell (.sc (.int .i64 (tkE l : Nat)))]
def bytesU (l : List U8) : List UInt8 := l.map fun b => UInt8.ofNat b.v.toNat
theorem bytes_mid (l : List U8) {k n : Nat} (h : k + n ≤ l.length) : List.map (fun j => byteF (encL l (k + j) 0)) (List.range n) = bytesU ((l.drop k).take n) := by
  have := strOf_mid l h
  unfold strOf strU at this
  have := congrArg ByteArray.data this
  simpa [bytesU] using this
theorem bytes_all (l : List U8) : List.map (fun j => byteF (encL l j 0)) (List.range l.length) = bytesU l := by
  have := bytes_mid l (k := 0) (n := l.length) (by omega)
  simp only [Nat.zero_add, List.drop_zero, List.take_length] at this
  exact this
theorem bytes_take (l : List U8) {n : Nat} (h : n ≤ l.length) : List.map (fun j => byteF (encL l j 0)) (List.range n) = bytesU (l.take n) := by
  have := bytes_mid l (k := 0) (n := n) (by omega)
  simp only [Nat.zero_add, List.drop_zero] at this
  exact this
theorem bytesU_inj {l m : List U8} (hl : l.all (okA U8) = true) (hm : m.all (okA U8) = true) : bytesU l = bytesU m ↔ l = m := by
  rw [← strU_inj hl hm]
  unfold strU bytesU
  exact ⟨fun h => by rw [h], fun h => by have := congrArg ByteArray.data h; simpa using this⟩
theorem bytesU_beq {l m : List U8} (hl : l.all (okA U8) = true) (hm : m.all (okA U8) = true) : (bytesU l == bytesU m) = sameU l m := by
  rw [Bool.eq_iff_iff, beq_iff_eq, bytesU_inj hl hm, sameU_eq]
theorem take_all {l : List U8} (h : l.all (okA U8) = true) (n : Nat) : (l.take n).all (okA U8) = true := by
  have := mid_all h 0 n
  simpa using this
theorem lenU_lt {l : List U8} (h : l.all (okA U8) = true) (h2 : 2 ≤ l.length) : lenU l < 65536 := by
  have a := all_getU h (i := 0) (by omega)
  have b := all_getU h (i := 1) (by omega)
  unfold lenU; omega
theorem lenU_ref {l : List U8} (h : l.all (okA U8) = true) (h2 : 2 ≤ l.length) : IntKind.wrap .i64 (IntKind.wrap .i64 (IntKind.wrap .i64 (l.getD 0 Enc.dflt).v * 256) + IntKind.wrap .i64 (l.getD 1 Enc.dflt).v) = (lenU l : Int) := by
  have a := all_getU h (i := 0) (by omega)
  have b := all_getU h (i := 1) (by omega)
  unfold lenU
  rw [w64 (x := (l.getD 0 Enc.dflt).v) (by omega) (by omega), w64 (x := (l.getD 1 Enc.dflt).v) (by omega) (by omega), w64 (x := (l.getD 0 Enc.dflt).v * 256) (by omega) (by omega), w64 (by omega) (by omega)]
  omega
theorem or_disj {a b : Nat} (ha : a < 256) (hb : b < 256) : (BitVec.ofInt 64 ((a : Int) * 256) ||| BitVec.ofInt 64 (b : Int)).toNat = a * 256 + b := by
  have h1 : (BitVec.ofInt 64 ((a : Int) * 256)).toNat = a * 256 := by
    rw [show ((a : Int) * 256) = ((a * 256 : Nat) : Int) by simp, BitVec.ofInt_natCast]
    simp; omega
  have h2 : (BitVec.ofInt 64 (b : Int)).toNat = b := by
    rw [BitVec.ofInt_natCast]
    simp; omega
  rw [BitVec.toNat_or, h1, h2]
  have := Nat.two_pow_add_eq_or_of_lt (i := 8) (b := b) hb a
  rw [show a * 256 = 2 ^ 8 * a by omega]
  exact this.symm
theorem lenU_or {l : List U8} (h : l.all (okA U8) = true) (h2 : 2 ≤ l.length) : IntKind.wrap .i64 (Int.ofNat (BitVec.toNat (BitVec.ofInt 64 (IntKind.wrap .i64 (IntKind.wrap .i64 (l.getD 0 Enc.dflt).v * 256)) ||| BitVec.ofInt 64 (IntKind.wrap .i64 (l.getD 1 Enc.dflt).v)))) = (lenU l : Int) := by
  have a := all_getU h (i := 0) (by omega)
  have b := all_getU h (i := 1) (by omega)
  rw [w64 (x := (l.getD 0 Enc.dflt).v) (by omega) (by omega), w64 (x := (l.getD 1 Enc.dflt).v) (by omega) (by omega), w64 (x := (l.getD 0 Enc.dflt).v * 256) (by omega) (by omega)]
  unfold lenU
  generalize (l.getD 0 Enc.dflt).v = x at *
  generalize (l.getD 1 Enc.dflt).v = y at *
  obtain ⟨x, rfl⟩ := Int.eq_ofNat_of_zero_le a.1
  obtain ⟨y, rfl⟩ := Int.eq_ofNat_of_zero_le b.1
  rw [or_disj (by omega) (by omega), Int.toNat_natCast, Int.toNat_natCast]
  exact w64 (by rw [Int.ofNat_eq_natCast]; omega) (by rw [Int.ofNat_eq_natCast]; omega)
theorem midU_len {l : List U8} (h : 2 + lenU l ≤ l.length) : (midU l).length = lenU l := mid_len l h
theorem midU_ok {l : List U8} (h : l.all (okA U8) = true) : (midU l).all (okA U8) = true := mid_all h _ _
theorem head_take {l : List U8} (h : l.all (okA U8) = true) (h2 : 2 + lenU l ≤ l.length) : headU (midU l) = l.take (2 + lenU l) := by
  unfold headU
  rw [midU_len h2]
  have a := all_getU h (i := 0) (by omega)
  have b := all_getU h (i := 1) (by omega)
  have hx : byU (lenU l / 256) = l.getD 0 Enc.dflt := u8_ext (by show ((lenU l / 256 % 256 : Nat) : Int) = _; unfold lenU; omega)
  have hy : byU (lenU l) = l.getD 1 Enc.dflt := u8_ext (by show ((lenU l % 256 : Nat) : Int) = _; unfold lenU; omega)
  unfold num2
  rw [hx, hy]
  unfold midU
  generalize lenU l = n at *
  match l, h2 with
  | x :: y :: l, _ =>
    show [x, y] ++ l.take n = _
    rw [show 2 + n = n + 1 + 1 by omega]; rfl
  | [x], h => simp at h; omega
  | [], h => simp at h
theorem take6 {l : List U8} {n : Nat} (h : n + 6 ≤ l.length) : l.take (n + 6) = l.take (2 + n) ++ (l.drop (2 + n)).take 4 := by
  rw [show n + 6 = (2 + n) + 4 by omega, List.take_add]
theorem app_inj_len {a b c d : List U8} (h : a.length = c.length) : a ++ b = c ++ d ↔ a = c ∧ b = d := by
  constructor
  · intro e; exact List.append_inj e h
  · rintro ⟨rfl, rfl⟩; rfl
/-- that a frame is there, by its sum -/
theorem frame_sum {l : List U8} (h : l.all (okA U8) = true) (h6 : lenU l + 6 ≤ l.length) : sameU (frameU (midU l)) (l.take (lenU l + 6)) = sameU (num4 (sumU (l.take (2 + lenU l)))) ((l.drop (2 + lenU l)).take 4) := by
  rw [Bool.eq_iff_iff, sameU_eq, sameU_eq, take6 h6]
  unfold frameU
  rw [head_take h (by omega), app_inj_len rfl]
  exact ⟨fun h => h.2, fun h => ⟨rfl, h⟩⟩
theorem take_leaf {l : List U8} {m : List (Option AObj)} {k n c0 : Nat} {e : Nat → Nat → Td} {x y : Int} (h0 : tkE l = 0) (hR : RowU e n (midU l)) (hk : m[k]? = some (some (.row .mine 1 0 n e))) (hc : n = 0 → c0 = 0) (hx : x = ((lenU l + 6 : Nat) : Int)) (hy : y = 0) :
    ∃ m2, objsR m m2 ∧ ansE (tkA l 0) (.returned (.tuple ⟨[.slice (some ⟨k, 0, some 0⟩) n c0, .int .i64 x, .int .i64 y]⟩)) (mkS m2) := by
  subst hx hy
  have hkl := (List.getElem?_eq_some_iff.1 hk).1
  refine ⟨_, hR.leaf hk, ⟨_, [k], rfl, ⟨[k], [], rfl, ?_, [], [], rfl, ⟨rfl, ?_, rfl⟩, [], [], rfl, ⟨rfl, ?_, rfl⟩, rfl⟩, by simp⟩⟩
  · unfold tkL tkC
    rw [if_pos h0, if_pos h0]
    exact own_at hkl hR.len hc
  · unfold tkN; rw [if_pos h0]
  · rw [h0]; rfl
theorem take_none {l : List U8} {m : List (Option AObj)} {q : Nat} {y : Int} (h0 : tkE l = q) (h1 : q ≠ 0) (hy : y = (q : Int)) :
    ∃ m2, objsR m m2 ∧ ansE (tkA l 0) (.returned (.tuple ⟨[.slice none 0 0, .int .i64 0, .int .i64 y]⟩)) (mkS m2) := by
  subst h0 hy
  refine ⟨_, objsR.refl _, ⟨_, [], rfl, ⟨[], [], rfl, ?_, [], [], rfl, ⟨rfl, ?_, rfl⟩, [], [], rfl, ⟨rfl, rfl, rfl⟩, rfl⟩, by simp⟩⟩
  · unfold tkL tkC
    rw [if_neg h1, if_neg h1]
    exact .inl ⟨rfl, rfl, rfl, rfl⟩
  · unfold tkN; rw [if_neg h1]; rfl
theorem ok1_mid {l : List U8} (hl : l.all (okA U8) = true) {k n c : Nat} (h : k + n ≤ l.length) (hn : n ≤ 1000000) (hc : c ≤ 1) : ok1 U8 (fun l _ => l.all (okA U8)) [Ta.cell (Td.fr 1 n c fun i => encL l (k + i))] = true := by
  show (okT U8 _ && (listT U8 _).all (okA U8)) = true
  rw [okT_mid hl h hn hc, listU_mid l c h, mid_all hl]; rfl
theorem taker_told : ToldW Try.prog 11 (ok1 U8 fun l _ => l.all (okA U8)) (ans1 U8 tkA) := by
  refine told1' fun l c hl hc hok => ⟨toldP, 100, 20, fun _ => 8, fun _ => [], fun _ _ => False, toldP_ok, fun β hβ => ?_⟩
  show lawE _ _ _ _ _ _ _ _ _ _ _ (outK fun r m => ∃ m2, objsR m m2 ∧ ansE (tkA l 0) r (mkS m2))
  rw [vc_taker]
  refine br_of (fun q => take_none (q := 11) (by simp at q; unfold tkE; rw [if_pos (by omega)]) (by omega) rfl) (fun q => ?_)
  have h2 : 2 ≤ l.length := by simp at q; omega
  have n2 : ¬ l.length < 2 := by omega
  have c0 : Nat.blt 0 l.length = true := by simp; omega
  have c1 : Nat.blt 1 l.length = true := by simp; omega
  have W1 := lenU_ref hok h2
  have hlt := lenU_lt hok h2
  simp only [c0, c1, Bool.true_and, need_t, W1]
  refine br_of (fun q1 => take_none (q := 2) (by simp at q1; unfold tkE; rw [if_neg n2, if_pos (by omega)]) (by omega) rfl) (fun q1 => ?_)
  have h200 : ¬ 200 < lenU l := by simp at q1; omega
  have W2 : IntKind.wrap .i64 ((lenU l : Int) + 6) = ((lenU l + 6 : Nat) : Int) := w64 (by omega) (by omega)
  have W3 : IntKind.wrap .i64 (2 + (lenU l : Int)) = ((2 + lenU l : Nat) : Int) := by rw [w64 (by omega) (by omega)]; simp
  simp only [W2, W3]
  refine br_of (fun q2 => take_none (q := 11) (by have q2 := of_decide_eq_true q2; rw [Int.ofNat_eq_natCast] at q2; unfold tkE; rw [if_neg n2, if_neg h200, if_pos (by omega)]) (by omega) rfl) (fun q2 => ?_)
  have h6 : lenU l + 6 ≤ l.length := by
    have q2 := of_decide_eq_false q2
    rw [Int.ofNat_eq_natCast] at q2; omega
  have n6 : ¬ l.length < lenU l + 6 := by omega
  have d1 : decide ((0 : Int) ≤ ((2 + lenU l : Nat) : Int)) = true := decide_eq_true (by omega)
  have d2 : decide ((0 : Int) ≤ ((lenU l + 6 : Nat) : Int)) = true := decide_eq_true (by omega)
  have b1 : Nat.ble (2 + lenU l) l.length = true := Nat.ble_eq_true_of_le (by omega)
  have b2 : Nat.ble 2 (2 + lenU l) = true := Nat.ble_eq_true_of_le (by omega)
  have b3 : Nat.ble (lenU l + 6) l.length = true := Nat.ble_eq_true_of_le h6
  have b4 : Nat.ble (lenU l) 1000000 = true := Nat.ble_eq_true_of_le (by omega)
  have s1 : 2 + lenU l - 2 = lenU l := by omega
  have z1 : Nat.beq l.length 0 = false := beq_false (by omega)
  have o1 := ok1_mid hok (k := 2) (n := lenU l) (c := 0) (by omega) (by omega) (by omega)
  have l1 : listT U8 (Td.fr 1 (lenU l) 0 fun i => encL l (2 + i)) = midU l := listU_mid l 0 (by omega)
  have hml := midU_len (l := l) (by omega)
  have p1 : putL (midU l) = frameU (midU l) := by unfold putL; rw [if_neg (by omega)]
  have hfo := frameU_ok (midU_ok hok)
  have B1 := bytes_all (frameU (midU l))
  have B2 := bytes_take l h6
  have B3 : (bytesU (frameU (midU l)) == bytesU (l.take (lenU l + 6))) = sameU (frameU (midU l)) (l.take (lenU l + 6)) := bytesU_beq hfo (take_all hok _)
  simp only [Int.toNat_natCast, s1, z1, cond_false, o1, l1, p1, d1, d2, b1, b2, b3, b4, Nat.zero_add, Nat.sub_zero, bleS, allB_all, Bool.true_and, need_t, B1, B2, B3]
  refine br_of (fun q3 => take_none (q := 2) (by rw [Bool.not_eq_true'] at q3; unfold tkE; rw [if_neg n2, if_neg h200, if_neg n6, q3]; rfl) (by omega) rfl) (fun q3 => ?_)
  rw [Bool.not_eq_false'] at q3
  refine take_leaf (k := 4) (by unfold tkE; rw [if_neg n2, if_neg h200, if_neg n6, if_pos q3]) ((RowU.enc l).sub (k := 2) (m := lenU l) (by omega)) rfl (fun _ => rfl) rfl rfl
theorem take_told : ToldW Try.prog 10 (ok1 U8 fun l _ => l.all (okA U8)) (ans1 U8 tkA) := by
  refine told1' fun l c hl hc hok => ⟨toldP, 100, 20, fun _ => 8, fun _ => [], fun _ _ => False, toldP_ok, fun β hβ => ?_⟩
  show lawE _ _ _ _ _ _ _ _ _ _ _ (outK fun r m => ∃ m2, objsR m m2 ∧ ansE (tkA l 0) r (mkS m2))
  rw [vc_take]
  refine br_of (fun q => take_none (q := 11) (by simp at q; unfold tkE; rw [if_pos (by omega)]) (by omega) rfl) (fun q => ?_)
  have h2 : 2 ≤ l.length := by simp at q; omega
  have n2 : ¬ l.length < 2 := by omega
  have c0 : Nat.blt 0 l.length = true := by simp; omega
  have c1 : Nat.blt 1 l.length = true := by simp; omega
  have c2 : Nat.ble 2 l.length = true := Nat.ble_eq_true_of_le h2
  have W1 := lenU_or hok h2
  have hlt := lenU_lt hok h2
  simp only [c0, c1, c2, Bool.true_and, need_t, W1]
  refine br_of (fun q1 => take_none (q := 2) (by simp at q1; unfold tkE; rw [if_neg n2, if_pos (by omega)]) (by omega) rfl) (fun q1 => ?_)
  have h200 : ¬ 200 < lenU l := by simp at q1; omega
  have W3 : IntKind.wrap .i64 (2 + (lenU l : Int)) = ((2 + lenU l : Nat) : Int) := by rw [w64 (by omega) (by omega)]; simp
  have W2 : IntKind.wrap .i64 (((2 + lenU l : Nat) : Int) + 4) = ((lenU l + 6 : Nat) : Int) := by rw [w64 (by omega) (by omega)]; omega
  have W4 : IntKind.wrap .i64 (((lenU l + 6 : Nat) : Int) - 4) = ((2 + lenU l : Nat) : Int) := by rw [w64 (by omega) (by omega)]; omega
  simp only [W3, W2, W4]
  refine br_of (fun q2 => take_none (q := 11) (by have q2 := of_decide_eq_true q2; rw [Int.ofNat_eq_natCast] at q2; unfold tkE; rw [if_neg n2, if_neg h200, if_pos (by omega)]) (by omega) rfl) (fun q2 => ?_)
  have h6 : lenU l + 6 ≤ l.length := by
    have q2 := of_decide_eq_false q2
    rw [Int.ofNat_eq_natCast] at q2; omega
  have n6 : ¬ l.length < lenU l + 6 := by omega
  have d1 : decide ((0 : Int) ≤ ((2 + lenU l : Nat) : Int)) = true := decide_eq_true (by omega)
  have d2 : decide ((0 : Int) ≤ ((lenU l + 6 : Nat) : Int)) = true := decide_eq_true (by omega)
  have b1 : Nat.ble (2 + lenU l) l.length = true := Nat.ble_eq_true_of_le (by omega)
  have b2 : Nat.ble 2 (2 + lenU l) = true := Nat.ble_eq_true_of_le (by omega)
  have b3 : Nat.ble (lenU l + 6) l.length = true := Nat.ble_eq_true_of_le h6
  have b5 : Nat.ble (2 + lenU l) (lenU l + 6) = true := Nat.ble_eq_true_of_le (by omega)
  have b0 : ∀ n, Nat.ble 0 n = true := fun n => by simp
  have s1 : 2 + lenU l - 2 = lenU l := by omega
  have s4 : lenU l + 6 - (2 + lenU l) = 4 := by omega
  have z1 : Nat.beq l.length 0 = false := beq_false (by omega)
  have z2 : Nat.beq (lenU l + 6) 0 = false := beq_false (by omega)
  have z3 : Nat.beq (2 + lenU l) 0 = false := beq_false (by omega)
  have o1 : ok1 U8 (fun l _ => l.all (okA U8)) [Ta.cell (Td.fr 1 (2 + lenU l) 0 (encL l))] = true := by
    have := ok1_mid hok (k := 0) (n := 2 + lenU l) (c := 0) (by omega) (by omega) (by omega)
    rw [encZ] at this; exact this
  have l1 : listT U8 (Td.fr 1 (2 + lenU l) 0 (encL l)) = l.take (2 + lenU l) := decL_take l (by omega)
  have l2 : listT U8 (Td.fr 1 4 0 fun i => encL l (2 + lenU l + i)) = (l.drop (2 + lenU l)).take 4 := listU_mid l 0 (by omega)
  have t4 : okT U8 (Td.fr 1 4 0 fun i => encL l (2 + lenU l + i)) = true := okT_mid hok (by omega) (by omega) (by omega)
  have hsum : refSum (natsU (l.take (2 + lenU l))) = sumU (l.take (2 + lenU l)) := rfl
  have s0 : Int.ofNat (sumU (l.take (2 + lenU l))) = ((sumU (l.take (2 + lenU l)) : Nat) : Int) := rfl
  have o3 : ok2 U8 U8 (fun _ _ _ _ => true) [Ta.cell (Td.fr 1 (1 + 1 + 1 + 1) 0 (selT 1 (1 + 1 + 1 + 1) [Td.sc (Value.int IntKind.u8 (byU (sumU (l.take (2 + lenU l)) / 16777216)).v), Td.sc (Value.int IntKind.u8 (byU (sumU (l.take (2 + lenU l)) / 65536)).v), Td.sc (Value.int IntKind.u8 (byU (sumU (l.take (2 + lenU l)) / 256)).v), Td.sc (Value.int IntKind.u8 (byU (sumU (l.take (2 + lenU l)))).v)])), Ta.cell (Td.fr 1 4 0 fun i => encL l (2 + lenU l + i))] = true := by
    show (okT U8 _ && okT U8 _ && true) = true
    exact Bool.and_eq_true_iff.2 ⟨Bool.and_eq_true_iff.2 ⟨(RowU.sel4 (byU (sumU (l.take (2 + lenU l)) / 16777216)).v (byU (sumU (l.take (2 + lenU l)) / 65536)).v (byU (sumU (l.take (2 + lenU l)) / 256)).v (byU (sumU (l.take (2 + lenU l)))).v).okT (num4_ok (sumU (l.take (2 + lenU l)))) (by omega) (by omega), t4⟩, rfl⟩
  have o4 : okC 1 [Ta.cell (Td.fr 1 (lenU l) 0 fun i => encL l (2 + i))] = true := okC_of (by omega) (by omega)
  have hF := frame_sum hok h6
  simp only [Int.toNat_natCast, s1, s4, z1, z2, z3, cond_false, cond_true, d1, d2, b0, b1, b2, b3, b5, Nat.zero_add, Nat.sub_zero, bleS, Bool.true_and, Bool.and_true, need_t, o1, l1, hsum, s0, fd1, fd256, fd65, fd16, l2, o3, o4]
  have hN : sameU (frameU (midU l)) (l.take (lenU l + 6)) = sameU [⟨(byU (sumU (l.take (2 + lenU l)) / 16777216)).v⟩, ⟨(byU (sumU (l.take (2 + lenU l)) / 65536)).v⟩, ⟨(byU (sumU (l.take (2 + lenU l)) / 256)).v⟩, ⟨(byU (sumU (l.take (2 + lenU l)))).v⟩] ((l.drop (2 + lenU l)).take 4) := hF
  refine need_of (Nat.ble_eq_true_of_le (by omega)) ?_
  rw [← hN]
  refine br_of (fun q3 => take_none (q := 2) (by rw [Bool.not_eq_true'] at q3; unfold tkE; rw [if_neg n2, if_neg h200, if_neg n6, q3]; rfl) (by omega) rfl) (fun q3 => ?_)
  rw [Bool.not_eq_false'] at q3
  refine take_leaf (k := 15) (by unfold tkE; rw [if_neg n2, if_neg h200, if_neg n6, if_pos q3]) ((RowU.enc l).sub (k := 2) (m := lenU l) (by omega)) rfl (fun _ => rfl) rfl rfl
def toldQ : Told := (toldP.tree 10 (ok1 U8 fun l _ => l.all (okA U8)) (ans1 U8 tkA)).tree 11 (ok1 U8 fun l _ => l.all (okA U8)) (ans1 U8 tkA)
theorem toldQ_ok : ToldS Try.prog toldQ := Told.tree_ok (Told.tree_ok toldP_ok take_told) taker_told
theorem lU (l : List U8) (c : Nat) : listT U8 (Td.fr 1 l.length c (encL l)) = l := listT_tdL l c
theorem ok1U {l : List U8} {c : Nat} (hok : l.all (okA U8) = true) (hl : l.length ≤ 1000000) (hc : c ≤ 1) : ok1 U8 (fun l _ => l.all (okA U8)) [Ta.cell (Td.fr 1 l.length c (encL l))] = true := (RowU.enc l).ok1 hok hl hc
/-- what a frame tells of how long it is -/
theorem frame_lenU {l m : List U8} (h : l.length ≤ 200) : lenU (frameU l ++ m) = l.length := by
  show (byU (l.length / 256)).v.toNat * 256 + (byU l.length).v.toNat = _
  show ((l.length / 256 % 256 : Nat) : Int).toNat * 256 + ((l.length % 256 : Nat) : Int).toNat = _
  rw [Int.toNat_natCast, Int.toNat_natCast]
  omega
theorem frame_mid {l m : List U8} (h : l.length ≤ 200) : midU (frameU l ++ m) = l := by
  unfold midU
  rw [frame_lenU h]
  show ((num2 l.length ++ l ++ num4 _ ++ m).drop 2).take l.length = l
  rw [List.append_assoc, List.append_assoc]
  show (l ++ (num4 _ ++ m)).take l.length = l
  rw [List.take_append_of_le_length (Nat.le_refl _), List.take_length]
theorem frame_inj {l m n : List U8} (hl : l.length ≤ 200) (hm : m.length ≤ 200) (h : frameU m ++ n = frameU l) : l = m := by
  have h1 := frame_mid (m := n) hm
  rw [h] at h1
  have h2 := frame_mid (m := []) hl
  rw [List.append_nil] at h2
  rw [h2] at h1; exact h1
end Go.Proofs.Ytiodkfbmcnfooaa.Ev
