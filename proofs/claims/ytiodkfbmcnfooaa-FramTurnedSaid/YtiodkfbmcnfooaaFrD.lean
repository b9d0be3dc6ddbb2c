/-
  FramTurned: a byte turned: the sum is another one; what there is of a frame then.
-/
import Derived.Test.YtiodkfbmcnfooaaFrDV
set_option linter.unusedVariables false
set_option linter.unusedSimpArgs false
set_option maxRecDepth 100000
namespace Go.Proofs.Ytiodkfbmcnfooaa.Ev
open Go Go.Proofs Go.RowKit

theorem xor_cancel {a b : Nat} (h : a ^^^ b = 0) : a = b := by
  have : a ^^^ b ^^^ b = 0 ^^^ b := by rw [h]
  rw [Nat.xor_assoc, Nat.xor_self, Nat.xor_zero, Nat.zero_xor] at this
  exact this
theorem bitN_inj {n a b : Nat} (ha : a < 4294967296) (hb : b < 4294967296) (h : bitN n a = bitN n b) : a = b := by
  refine xor_cancel ?_
  rcases Nat.eq_zero_or_pos (a ^^^ b) with h0 | h0
  · exact h0
  · exfalso
    have h1 := bitN_ne n (a ^^^ b) (Nat.xor_lt_two_pow (n := 32) ha hb) (by omega)
    rw [bitN_xor, h, Nat.xor_self] at h1
    exact h1 rfl
theorem refByte_inj {a b x y : Nat} (ha : a < 4294967296) (hb : b < 4294967296) (hx : x < 256) (hy : y < 256) (h : refByte a x = refByte b y) : a ^^^ x = b ^^^ y :=
  bitN_inj (xor_lt _ _ ha hx) (xor_lt _ _ hb hy) h
theorem fold_inj : ∀ (l : List Nat) {a b : Nat}, (∀ x ∈ l, x < 256) → a < 4294967296 → b < 4294967296 → l.foldl refByte a = l.foldl refByte b → a = b := by
  intro l
  induction l with
  | nil => intro a b _ _ _ h; exact h
  | cons x l ih =>
    intro a b hl ha hb h
    have hx := hl x (by simp)
    have h1 := ih (fun y hy => hl y (by simp [hy])) (refByte_lt a x ha hx) (refByte_lt b x hb hx) h
    have h2 := refByte_inj ha hb hx hx h1
    have h3 : a ^^^ x ^^^ x = b ^^^ x ^^^ x := by rw [h2]
    rw [Nat.xor_assoc, Nat.xor_assoc, Nat.xor_self, Nat.xor_zero, Nat.xor_zero] at h3
    exact h3
theorem fold_lt32 : ∀ (l : List Nat) {a : Nat}, (∀ x ∈ l, x < 256) → a < 4294967296 → l.foldl refByte a < 4294967296 := by
  intro l
  induction l with
  | nil => intro a _ h; exact h
  | cons x l ih => intro a hl ha; exact ih (fun y hy => hl y (by simp [hy])) (refByte_lt a x ha (hl x (by simp)))
theorem sum_one {l r : List Nat} {x y : Nat} (hl : ∀ z ∈ l, z < 256) (hr : ∀ z ∈ r, z < 256) (hx : x < 256) (hy : y < 256) (h : refSum (l ++ x :: r) = refSum (l ++ y :: r)) : x = y := by
  unfold refSum at h
  rw [List.foldl_append, List.foldl_append] at h
  have hc := fold_lt32 l (a := 4294967295) hl (by omega)
  generalize l.foldl refByte 4294967295 = c at *
  have h1 : (x :: r).foldl refByte c = (y :: r).foldl refByte c := by
    generalize (x :: r).foldl refByte c = p at *
    generalize (y :: r).foldl refByte c = q at *
    have : 4294967295 ^^^ (4294967295 ^^^ p) = 4294967295 ^^^ (4294967295 ^^^ q) := by rw [h]
    rw [← Nat.xor_assoc, ← Nat.xor_assoc, Nat.xor_self, Nat.zero_xor, Nat.zero_xor] at this
    exact this
  have h2 := fold_inj r hr (refByte_lt c x hc hx) (refByte_lt c y hc hy) h1
  have h3 := refByte_inj hc hc hx hy h2
  have h4 : c ^^^ (c ^^^ x) = c ^^^ (c ^^^ y) := by rw [h3]
  rw [← Nat.xor_assoc, ← Nat.xor_assoc, Nat.xor_self, Nat.zero_xor, Nat.zero_xor] at h4
  exact h4
theorem set_split {α : Type} (l : List α) (k : Nat) (x : α) (d : α) (h : k < l.length) : l.set k x = l.take k ++ x :: l.drop (k + 1) ∧ l = l.take k ++ l.getD k d :: l.drop (k + 1) := by
  constructor
  · rw [List.set_eq_take_append_cons_drop, if_pos h]
  · have := List.take_append_drop k l
    rw [List.drop_eq_getElem_cons h] at this
    have e : l.getD k d = l[k] := by simp [List.getD, h]
    rw [e]; exact this.symm
theorem nats_lt {l : List U8} (h : l.all (okA U8) = true) : ∀ z ∈ natsU l, z < 256 := by
  intro z hz
  obtain ⟨b, hb, rfl⟩ := List.mem_map.1 hz
  rw [List.all_eq_true] at h
  have := (okU_iff b).1 (h b hb)
  omega
theorem sum_set {l : List U8} {k : Nat} {x : U8} (hl : l.all (okA U8) = true) (hx : okA U8 x = true) (hk : k < l.length) (h : sumU (l.set k x) = sumU l) : x = l.getD k Enc.dflt := by
  obtain ⟨e1, e2⟩ := set_split l k x Enc.dflt hk
  have hd := all_getU hl hk
  have hx' := (okU_iff x).1 hx
  unfold sumU at h
  rw [e1] at h
  have e3 : natsU l = natsU (l.take k) ++ (l.getD k Enc.dflt).v.toNat :: natsU (l.drop (k + 1)) := by
    have := congrArg natsU e2
    simpa [natsU] using this
  rw [e3] at h
  have e4 : natsU (l.take k ++ x :: l.drop (k + 1)) = natsU (l.take k) ++ x.v.toNat :: natsU (l.drop (k + 1)) := by simp [natsU]
  rw [e4] at h
  have hdr : (l.drop (k + 1)).all (okA U8) = true := by
    rw [List.all_eq_true] at hl ⊢
    exact fun y hy => hl y (List.mem_of_mem_drop hy)
  have := sum_one (nats_lt (take_all hl k)) (nats_lt hdr) (by omega) (by omega) h
  exact u8_ext (by omega)
theorem num4_inj {a b : Nat} (ha : a < 4294967296) (hb : b < 4294967296) (h : num4 a = num4 b) : a = b := by
  unfold num4 byU at h
  simp only [List.cons.injEq, U8.mk.injEq, and_true] at h
  omega
theorem tk_frame {l m : List U8} (h : l.length ≤ 200) : tkE (frameU l ++ m) = 0 ∧ tkL (frameU l ++ m) = l ∧ tkN (frameU l ++ m) = l.length + 6 := by
  have hl := frameU_len l
  have he : tkE (frameU l ++ m) = 0 := by
    unfold tkE
    rw [frame_lenU h, frame_mid h, if_neg (by rw [List.length_append]; omega), if_neg (by omega), if_neg (by rw [List.length_append]; omega)]
    rw [if_pos ((sameU_eq _ _).2 (by rw [← frameU_len, List.take_append_of_le_length (Nat.le_refl _), List.take_length]))]
  unfold tkL tkN
  rw [if_pos he, if_pos he, frame_mid h, frame_lenU h]
  exact ⟨he, rfl, rfl⟩
theorem getD_take {l : List U8} {k i : Nat} (h : i < k) : (l.take k).getD i Enc.dflt = l.getD i Enc.dflt := by
  simp [List.getD, List.getElem?_take, h]
theorem tk_cut {l : List U8} {k : Nat} (h : l.length ≤ 200) (hk : k < (frameU l).length) : tkE ((frameU l).take k) = 11 := by
  have hl := frameU_len l
  have hlen : ((frameU l).take k).length = k := by rw [List.length_take]; omega
  unfold tkE
  rw [hlen]
  by_cases h2 : k < 2
  · rw [if_pos h2]
  · rw [if_neg h2]
    have e : lenU ((frameU l).take k) = l.length := by
      have := frame_lenU (m := []) h
      rw [List.append_nil] at this
      rw [← this]
      unfold lenU
      rw [getD_take (by omega), getD_take (by omega)]
    rw [e, if_neg (by omega), if_pos (by omega)]
theorem setU_get {l : List U8} {k i : Nat} {x : U8} (h : i ≠ k) : (l.set k x).getD i Enc.dflt = l.getD i Enc.dflt := by
  simp [List.getD, List.getElem?_set_ne (Ne.symm h)]
theorem setU_at {l : List U8} {k : Nat} {x : U8} (h : k < l.length) : (l.set k x).getD k Enc.dflt = x := by
  simp [List.getD, h]
theorem set_all {l : List U8} {k : Nat} {x : U8} (h : l.all (okA U8) = true) (hx : okA U8 x = true) : (l.set k x).all (okA U8) = true := by
  rw [List.all_eq_true] at h ⊢
  intro y hy
  rcases List.mem_or_eq_of_mem_set hy with h1 | h1
  · exact h y h1
  · rw [h1]; exact hx
/-- a byte of how long it is turned -/
theorem tk_turn2 {l : List U8} {k : Nat} {x : U8} (hl : l.all (okA U8) = true) (hx : okA U8 x = true) (h : l.length ≤ 200) (hk : k < 2) (hne : x ≠ (frameU l).getD k Enc.dflt) (h0 : tkE ((frameU l).set k x) = 0) : tkL ((frameU l).set k x) ≠ l := by
  have hfl := frameU_len l
  have hfo := frameU_ok hl
  have hlenS : ((frameU l).set k x).length = l.length + 6 := by rw [List.length_set, hfl]
  have hso : ((frameU l).set k x).all (okA U8) = true := set_all hfo hx
  intro he
  unfold tkL at he
  rw [if_pos h0] at he
  have hr : lenU ((frameU l).set k x) + 6 ≤ ((frameU l).set k x).length := by
    unfold tkE at h0
    split at h0
    · omega
    · split at h0
      · omega
      · split at h0
        · omega
        · omega
  have h1 := midU_len (l := (frameU l).set k x) (by omega)
  rw [he] at h1
  have h2 := frame_lenU (m := []) h
  rw [List.append_nil] at h2
  have h3 : lenU ((frameU l).set k x) = lenU (frameU l) := by omega
  have a0 := all_getU hfo (i := 0) (by omega)
  have a1 := all_getU hfo (i := 1) (by omega)
  have hx' := (okU_iff x).1 hx
  unfold lenU at h3
  have hk' : k = 0 ∨ k = 1 := by omega
  rcases hk' with rfl | rfl
  · rw [setU_at (by omega), setU_get (by omega)] at h3
    exact hne (u8_ext (by omega))
  · rw [setU_at (by omega), setU_get (by omega)] at h3
    exact hne (u8_ext (by omega))
/-- another byte turned -/
theorem tk_turn {l : List U8} {k : Nat} {x : U8} (hl : l.all (okA U8) = true) (hx : okA U8 x = true) (h : l.length ≤ 200) (hk2 : 2 ≤ k) (hk : k < (frameU l).length) (hne : x ≠ (frameU l).getD k Enc.dflt) : tkE ((frameU l).set k x) = 2 := by
  have hfl := frameU_len l
  have hfo := frameU_ok hl
  have hlenS : ((frameU l).set k x).length = l.length + 6 := by rw [List.length_set, hfl]
  have hso : ((frameU l).set k x).all (okA U8) = true := set_all hfo hx
  have h2 := frame_lenU (m := []) h
  rw [List.append_nil] at h2
  have hN : lenU ((frameU l).set k x) = l.length := by
    rw [← h2]; unfold lenU; rw [setU_get (by omega), setU_get (by omega)]
  unfold tkE
  rw [hlenS, hN, if_neg (by omega), if_neg (by omega), if_neg (by omega)]
  have hfs := frame_sum hso (by rw [hN, hlenS]; exact Nat.le_refl _)
  rw [hN] at hfs
  rw [hfs, if_neg]
  intro he
  have he := (sameU_eq _ _).1 he
  have hh : (frameU l).take (2 + l.length) = headU l := by
    unfold frameU
    rw [List.take_append_of_le_length (by rw [headU_len]; exact Nat.le_refl _), ← headU_len, List.take_length]
  have ht : ((frameU l).drop (2 + l.length)).take 4 = num4 (sumU (headU l)) := by
    unfold frameU
    rw [← headU_len, List.drop_left]; rfl
  by_cases hkh : k < 2 + l.length
  · have e1 : ((frameU l).set k x).take (2 + l.length) = (headU l).set k x := by rw [List.take_set, hh]
    have e2 : ((frameU l).set k x).drop (2 + l.length) = (frameU l).drop (2 + l.length) := by rw [List.drop_set, if_pos hkh]
    rw [e1, e2, ht] at he
    have hs1 := sumU_lt (set_all (k := k) (headU_ok hl) hx)
    have hs2 := sumU_lt (headU_ok hl)
    have := sum_set (headU_ok hl) hx (by rw [headU_len]; exact hkh) (num4_inj hs1 hs2 he)
    apply hne
    rw [this, ← hh, getD_take hkh]
  · have e1 : ((frameU l).set k x).take (2 + l.length) = headU l := by rw [List.take_set, List.set_eq_of_length_le (by rw [List.length_take]; omega), hh]
    rw [e1] at he
    apply hne
    have e3 : (((frameU l).set k x).drop (2 + l.length)).take 4 = ((frameU l).drop (2 + l.length)).take 4 := by rw [← he, ht]
    have e4 := congrArg (fun q => q[k - (2 + l.length)]?) e3
    simp only [List.getElem?_take, List.getElem?_drop, show k - (2 + l.length) < 4 by omega, if_true, show 2 + l.length + (k - (2 + l.length)) = k by omega] at e4
    rw [List.getElem?_set_self (by omega)] at e4
    simp only [List.getD, ← e4, Option.getD_some]
theorem xor8 {p q : Nat} (hp : p < 256) (hq : q < 256) : IntKind.wrap .u8 (Int.ofNat (BitVec.toNat (BitVec.ofInt 8 (p : Int) ^^^ BitVec.ofInt 8 (q : Int)))) = ((p ^^^ q : Nat) : Int) := by
  rw [BitVec.ofInt_natCast, BitVec.ofInt_natCast, BitVec.toNat_xor, BitVec.toNat_ofNat, BitVec.toNat_ofNat, Nat.mod_eq_of_lt hp, Nat.mod_eq_of_lt hq]
  have := Nat.xor_lt_two_pow (n := 8) hp hq
  show IntKind.wrap .u8 ((p ^^^ q : Nat) : Int) = _
  rw [wrap8, Nat.mod_eq_of_lt this]
theorem framTurned_law {l m : List U8} {c d : Nat} {a b : Int} (hc : c ≤ 1) (hd : d ≤ 1) (hl : l.all (okA U8) = true) (hm : m.all (okA U8) = true) (ha' : 0 ≤ a ∧ a < 65536) (hb' : 0 ≤ b ∧ b < 256) (w : World) (args' : Array Value) (ha : PW (TR w (There w)) [tdL l c, .sc (.int .u16 a), .sc (.int .u8 b), tdL m d] args'.toList) :
    Calls Try.prog 4 args' w fun e w' => e = .returned (.bool true) ∧ Below w.heap.size w w' := by
  refine law_top (C := toldQ) (fuel := 100) (n := 20) (un := fun _ => 8) (lvs := fun _ => []) (ex := fun _ _ => False) follows toldQ_ok (fun β hβ => ?_) w args' ha
  show lawE _ _ _ _ _ _ (cnOf 2 fun _ => []) _ _ [.slice (some ⟨0, 0, some 0⟩) l.length c, .int .u16 a, .int .u8 b, .slice (some ⟨1, 0, some 0⟩) m.length d] (mkS [some (rowO .still l), some (rowO .still m)]) trueE
  rw [vc_ft]
  refine br_of (fun _ => trivial) (fun q1 => br_of (fun _ => trivial) (fun q2 => ?_))
  have h1 : l.length ≤ 200 := by simp at q1; omega
  have h2 : m.length ≤ 50 := by simp at q2; omega
  have o1 := ok1U hl (by omega) hc
  have p1 : putL l = frameU l := by unfold putL; rw [if_neg (by omega)]
  have d1 : decide (l.length ≤ 200) = true := decide_eq_true h1
  have hB := frameU_len l
  have hBo := frameU_ok hl
  obtain ⟨f1, f2, f3⟩ := tk_frame (m := m) h1
  have W0 : IntKind.wrap .i64 ((l.length : Int) + 6) = ((frameU l).length : Int) := by rw [w64 (by omega) (by omega)]; omega
  obtain ⟨a', rfl⟩ := Int.eq_ofNat_of_zero_le ha'.1
  obtain ⟨b', rfl⟩ := Int.eq_ofNat_of_zero_le hb'.1
  have W1 : IntKind.wrap .i64 (a' : Int) = (a' : Int) := w64 (by omega) (by omega)
  have W2 : Int.tmod (a' : Int) ((frameU l).length : Int) = ((a' % (frameU l).length : Nat) : Int) := (Int.ofNat_tmod _ _).symm
  have hK : a' % (frameU l).length < (frameU l).length := Nat.mod_lt _ (by omega)
  have hcut := tk_cut h1 hK
  have R1 := (RowU.enc (frameU l)).app (RowU.enc m)
  have l1 := R1.list (c := 0)
  have o2 := R1.ok1 (c := 0) (by rw [List.all_append, hBo, hm]; rfl) (by omega) (by omega)
  have z1 : Nat.beq (frameU l).length 0 = false := beq_false (by omega)
  have z2 : decide (((frameU l).length : Int) = 0) = false := decide_eq_false (by omega)
  have b1 : Nat.ble (frameU l).length 1000000 = true := Nat.ble_eq_true_of_le (by omega)
  have b2 : Nat.ble ((frameU l).length + m.length) 1000000 = true := Nat.ble_eq_true_of_le (by omega)
  have b3 : Nat.ble (a' % (frameU l).length) (frameU l).length = true := Nat.ble_eq_true_of_le (by omega)
  have b4 : Nat.blt (a' % (frameU l).length) (frameU l).length = true := by simpa using hK
  have b0 : ∀ n, Nat.ble 0 n = true := fun n => by simp
  have e1 : decide ((0 : Int) ≤ ((a' % (frameU l).length : Nat) : Int)) = true := decide_eq_true (by omega)
  have o3 : ok1 U8 (fun l _ => l.all (okA U8)) [Ta.cell (Td.fr 1 (a' % (frameU l).length) 0 (encL (frameU l)))] = true := by
    have := ok1_mid hBo (k := 0) (n := a' % (frameU l).length) (c := 0) (by omega) (by omega) (by omega)
    rw [encZ] at this; exact this
  have l3 : listT U8 (Td.fr 1 (a' % (frameU l).length) 0 (encL (frameU l))) = (frameU l).take (a' % (frameU l).length) := decL_take _ (by omega)
  have c1 : (((0 : Nat) : Int) != 0) = false := rfl
  have c2 : (((l.length + 6 : Nat) : Int) != ((frameU l).length : Int)) = false := by rw [hB]; simp
  have c3 : (((11 : Nat) : Int) != 11) = false := rfl
  simp only [encZ, Nat.zero_add, Nat.sub_zero, bleS, Bool.true_and, Bool.and_true, need_t, o1, lU, allB_all, p1, d1, Bool.not_true, br_f, Int.ofNat_eq_natCast, W0, W1, W2, bne_self_eq_false, b0, b1, b2, b3, b4, o2, l1, z1, z2, cond_false, Int.toNat_natCast, e1, o3, l3, f1, f2, f3, hcut, c1, c2, c3, beq_self_eq_true, Bool.not_false]
  refine br_of (fun _ => trivial) (fun hb => ?_)
  have hb0 : b' ≠ 0 := by intro h; rw [h] at hb; simp at hb
  have hp := all_getU hBo hK
  obtain ⟨p, hpv⟩ := Int.eq_ofNat_of_zero_le hp.1
  rw [hpv]
  have hx8 := xor8 (p := p) (q := b') (by omega) (by omega)
  rw [Int.ofNat_eq_natCast] at hx8
  have hxl := Nat.xor_lt_two_pow (n := 8) (x := p) (y := b') (by omega) (by omega)
  have hX : okA U8 ⟨((p ^^^ b' : Nat) : Int)⟩ = true := (okU_iff _).2 ⟨by show (0 : Int) ≤ ((p ^^^ b' : Nat) : Int); omega, by show ((p ^^^ b' : Nat) : Int) < 256; omega⟩
  have hne : (⟨((p ^^^ b' : Nat) : Int)⟩ : U8) ≠ (frameU l).getD (a' % (frameU l).length) Enc.dflt := by
    intro h
    have := congrArg U8.v h
    rw [hpv] at this
    have h5 : ((p ^^^ b' : Nat) : Int) = (p : Int) := this
    have : p ^^^ b' = p := Int.ofNat.inj h5
    have h3 : p ^^^ (p ^^^ b') = p ^^^ p := by rw [this]
    rw [← Nat.xor_assoc, Nat.xor_self, Nat.zero_xor] at h3
    exact hb0 h3
  have R2 := (RowU.enc (frameU l)).put (v := ((p ^^^ b' : Nat) : Int)) hK
  have hso := set_all (k := a' % (frameU l).length) hBo hX
  have l2 := R2.list (c := 0)
  have o4 := R2.ok1 (c := 0) hso (by omega) (by omega)
  simp only [hx8, o4, l2, need_t]
  refine br_of (fun q => br_of (fun _ => trivial) (fun q4 => need_of ?_ trivial)) (fun q => need_of ?_ trivial)
  · have q := of_decide_eq_true q
    have h0 : tkE ((frameU l).set (a' % (frameU l).length) ⟨((p ^^^ b' : Nat) : Int)⟩) = 0 := by simpa using q4
    have ht := tk_turn2 hl hX h1 (by omega) hne h0
    have hto : (tkL ((frameU l).set (a' % (frameU l).length) ⟨((p ^^^ b' : Nat) : Int)⟩)).all (okA U8) = true := by
      unfold tkL; rw [if_pos h0]; exact midU_ok hso
    rw [bytes_all, bytes_all, bytesU_beq hto hl, Bool.not_eq_true']
    cases hs : sameU (tkL ((frameU l).set (a' % (frameU l).length) ⟨((p ^^^ b' : Nat) : Int)⟩)) l with
    | false => rfl
    | true => exact absurd ((sameU_eq _ _).1 hs) ht
  · have q := of_decide_eq_false q
    rw [tk_turn hl hX h1 (by omega) hK hne]; rfl
end Go.Proofs.Ytiodkfbmcnfooaa.Ev
