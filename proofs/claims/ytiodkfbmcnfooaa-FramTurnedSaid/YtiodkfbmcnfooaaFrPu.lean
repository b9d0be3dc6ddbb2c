/-
  fram.Put, ref16.PutFrame: told to the evaluator.
-/
import Derived.Test.YtiodkfbmcnfooaaFrPV
import Derived.Test.YtiodkfbmcnfooaaFrQV
import Derived.Test.YtiodkfbmcnfooaaRowU
set_option linter.unusedVariables false
set_option linter.unusedSimpArgs false
namespace Go.Proofs.Ytiodkfbmcnfooaa.Ev
open Go Go.Proofs Go.RowKit

def putL (l : List U8) : List U8 := if 200 < l.length then [] else frameU l
def putA (l : List U8) (_ : Nat) : Ans := .rets [.cell (ownL (putL l) 1), .cell (.sc (.bool (decide (l.length ≤ 200))))]
theorem md (n : Nat) : IntKind.wrap .u8 (Int.tmod (n : Int) 256) = (byU n).v := by
  have : Int.tmod (n : Int) 256 = ((n % 256 : Nat) : Int) := (Int.ofNat_tmod n 256).symm
  rw [this, wrap8, Nat.mod_mod]; rfl
theorem dv {n : Nat} (h : n < 4294967296) : IntKind.wrap .u64 (Int.tdiv (n : Int) 256) = ((n / 256 : Nat) : Int) := by
  have : Int.tdiv (n : Int) 256 = ((n / 256 : Nat) : Int) := (Int.ofNat_tdiv n 256).symm
  rw [this]; exact wrap64u (by omega)
theorem dv3 (n : Nat) : n / 256 / 256 / 256 = n / 16777216 := by omega
theorem dv2 (n : Nat) : n / 256 / 256 = n / 65536 := by omega
theorem fd1 (n : Nat) : IntKind.wrap .u8 (Int.fdiv (n : Int) 1) = (byU n).v := by
  have := by_fdiv n 1
  rw [Nat.div_one] at this; exact this
theorem fd256 (n : Nat) : IntKind.wrap .u8 (Int.fdiv (n : Int) 256) = (byU (n / 256)).v := by_fdiv n 256
theorem fd65 (n : Nat) : IntKind.wrap .u8 (Int.fdiv (n : Int) 65536) = (byU (n / 65536)).v := by_fdiv n 65536
theorem fd16 (n : Nat) : IntKind.wrap .u8 (Int.fdiv (n : Int) 16777216) = (byU (n / 16777216)).v := by_fdiv n 16777216
theorem put_leaf {l : List U8} {m : List (Option AObj)} {k n c0 : Nat} {e : Nat → Nat → Td} (h2 : l.length ≤ 200) (hR : RowU e n (frameU l)) (hk : m[k]? = some (some (.row .mine 1 0 n e))) :
    ∃ m2, objsR m m2 ∧ ansE (putA l 0) (.returned (.tuple ⟨[.slice (some ⟨k, 0, some 0⟩) n c0, .bool true]⟩)) (mkS m2) := by
  have hkl := (List.getElem?_eq_some_iff.1 hk).1
  have hn := hR.len
  rw [frameU_len] at hn
  refine ⟨_, hR.leaf hk, ⟨_, [k], rfl, ⟨[k], [], rfl, ?_, [], [], rfl, ⟨rfl, ?_, rfl⟩, rfl⟩, by simp⟩⟩
  · rw [show putL l = frameU l by unfold putL; rw [if_neg (by omega)]]
    exact own_at hkl hR.len (fun h => by omega)
  · rw [decide_eq_true h2]
theorem put_none {l : List U8} {m : List (Option AObj)} (h2 : ¬ l.length ≤ 200) :
    ∃ m2, objsR m m2 ∧ ansE (putA l 0) (.returned (.tuple ⟨[.slice none 0 0, .bool false]⟩)) (mkS m2) := by
  refine ⟨_, objsR.refl _, ⟨_, [], rfl, ⟨[], [], rfl, ?_, [], [], rfl, ⟨rfl, ?_, rfl⟩, rfl⟩, by simp⟩⟩
  · rw [show putL l = [] by unfold putL; rw [if_pos (by omega)]]
    exact .inl ⟨rfl, rfl, rfl, rfl⟩
  · rw [decide_eq_false h2]
theorem told1' {g : FuncId} {p : List U8 → Nat → Bool} {A : List U8 → Nat → Ans}
    (h : ∀ (l : List U8) (c : Nat), l.length ≤ 1000000 → c ≤ 1 → p l c = true → ∃ (C : Told) (fuel n : Nat) (un : Nat → Nat) (lvs : Nat → List Nat) (ex : Nat → Kt → Prop), ToldS Try.prog C ∧ ∀ β : Bs, β.X.length = 1 → lawE Try.prog C fuel n β un (cnOf 1 lvs) ex g [.slice (some ⟨0, 0, some 0⟩) l.length c] (mkS [some (rowO .look l)]) (outR (ansE (A l c)))) : ToldW Try.prog g (ok1 U8 p) (ans1 U8 A) := by
  intro ts hok w args' F hF ha
  unfold ok1 at hok
  split at hok
  · rename_i t
    simp only [Bool.and_eq_true] at hok
    obtain ⟨h1, h2⟩ := okT_len hok.1
    obtain ⟨y, m, e, hy, hm'⟩ := ha.uncons
    have := hm'.nil_inv
    subst this
    have ha' : PW (TaR w F) [.cell (tdL (listT U8 t) (nilT t))] args'.toList := by rw [e]; exact PW.cons (okT_TRo hok.1 hy) (PW.nil _)
    exact toldW_out (ts := [.cell (tdL (listT U8 t) (nilT t))]) follows (h _ _ h1 h2 hok.2) w args' F hF ha'
  · cases hok
theorem putr_told : ToldW Try.prog 9 (ok1 U8 fun l _ => l.all (okA U8)) (ans1 U8 putA) := by
  refine told1' fun l c hl hc hok => ⟨toldE, 100, 20, fun _ => 8, fun _ => [], fun _ _ => False, toldE_ok, fun β hβ => ?_⟩
  show lawE _ _ _ _ _ _ _ _ _ _ _ (outK fun r m => ∃ m2, objsR m m2 ∧ ansE (putA l 0) r (mkS m2))
  rw [vc_putr]
  refine br_of (fun q => put_none (by simp at q; omega)) (fun q => ?_)
  have h2 : l.length ≤ 200 := by simp at q; omega
  have e0 : IntKind.wrap .u64 (Int.ofNat l.length) = (l.length : Int) := wrap64u (by omega)
  have e1 := dv (n := l.length) (by omega)
  have hH := (((RowU.zero 2).put (v := (byU l.length).v) (i0 := 1) (by omega)).put (v := (byU (l.length / 256)).v) (i0 := 0) (by omega)).app (RowU.enc l)
  have hH := hH.to (m := 2 + l.length) (M := headU l) rfl rfl
  have hs := sumU_lt (headU_ok hok)
  have hsum : refSum (natsU (headU l)) = sumU (headU l) := rfl
  have l1 := hH.list (c := 1)
  have o1 := hH.ok1 (c := 1) (headU_ok hok) (by omega) (by omega)
  have s0 : IntKind.wrap .u64 (Int.ofNat (sumU (headU l))) = (sumU (headU l) : Int) := wrap64u (by omega)
  have s1 := dv (n := sumU (headU l)) hs
  have s2 := dv (n := sumU (headU l) / 256) (by omega)
  have s3 := dv (n := sumU (headU l) / 256 / 256) (by omega)
  have b1 : Nat.ble (2 + l.length) 1000000 = true := Nat.ble_eq_true_of_le (by omega)
  have b2 : Nat.ble (2 + l.length + 4) 1000000 = true := Nat.ble_eq_true_of_le (by omega)
  simp only [Nat.zero_add, bleS, Bool.true_and, need_t, e0, e1, md, o1, l1, hsum, s0, s1, s2, s3, b1, b2]
  refine put_leaf (k := 6) h2 ?_ rfl
  have hF := hH.app (((((RowU.zero 4).put (v := (byU (sumU (headU l))).v) (i0 := 3) (by omega)).put (v := (byU (sumU (headU l) / 256)).v) (i0 := 2) (by omega)).put (v := (byU (sumU (headU l) / 256 / 256)).v) (i0 := 1) (by omega)).put (v := (byU (sumU (headU l) / 256 / 256 / 256)).v) (i0 := 0) (by omega))
  exact hF.to rfl (by rw [dv3, dv2]; rfl)
theorem put_told : ToldW Try.prog 8 (ok1 U8 fun l _ => l.all (okA U8)) (ans1 U8 putA) := by
  refine told1' fun l c hl hc hok => ⟨toldE, 100, 20, fun _ => 8, fun _ => [], fun _ _ => False, toldE_ok, fun β hβ => ?_⟩
  show lawE _ _ _ _ _ _ _ _ _ _ _ (outK fun r m => ∃ m2, objsR m m2 ∧ ansE (putA l 0) r (mkS m2))
  rw [vc_put]
  refine br_of (fun q => put_none (by simp at q; omega)) (fun q => ?_)
  have h2 : l.length ≤ 200 := by simp at q; omega
  have w1 : IntKind.wrap .i64 ((0 : Int) + Int.ofNat (1 + 1)) = 2 := by decide
  have w2 : IntKind.wrap .i64 ((2 : Int) + Int.ofNat l.length) = ((2 + l.length : Nat) : Int) := by
    rw [Int.ofNat_eq_natCast, w64 (by omega) (by omega)]; simp
  have w3 : IntKind.wrap .i64 (((2 + l.length : Nat) : Int) - 0) = ((2 + l.length : Nat) : Int) := by rw [Int.sub_zero]; exact w64 (by omega) (by omega)
  have w4 : IntKind.wrap .u32 (Int.ofNat l.length) = (l.length : Int) := wrap32 (by omega)
  have d1 : decide (((2 + l.length : Nat) : Int) < 0) = false := decide_eq_false (by omega)
  have d2 : decide (((2 + l.length : Nat) : Int) > 0) = true := decide_eq_true (by omega)
  have d3 : decide ((0 : Int) ≤ ((2 + l.length : Nat) : Int)) = true := decide_eq_true (by omega)
  have t1 : Int.toNat ((2 + l.length : Nat) : Int) = 2 + l.length := Int.toNat_natCast _
  have z1 : Nat.beq (2 + l.length) 0 = false := beq_false (by omega)
  have b1 : Nat.ble (2 + l.length) 1000000 = true := Nat.ble_eq_true_of_le (by omega)
  have b2 : Nat.ble (1 + 1 + l.length) 1000000 = true := Nat.ble_eq_true_of_le (by omega)
  have b3 : Nat.ble (1 + 1 + l.length + (1 + 1 + 1 + 1)) 1000000 = true := Nat.ble_eq_true_of_le (by omega)
  have hs := sumU_lt (headU_ok hok)
  have hsum : refSum (natsU (headU l)) = sumU (headU l) := rfl
  have hH := (((RowU.zero (2 + l.length)).sub (k := 0) (m := 0) (by omega)).app (RowU.sel2 (byU (l.length / 256)).v (byU l.length).v)).app (RowU.enc l)
  have hH := hH.to (m := 1 + 1 + l.length) (M := headU l) (by omega) rfl
  have l1 := hH.list (c := 0)
  have o1 := hH.ok1 (c := 0) (headU_ok hok) (by omega) (by omega)
  have s0 : Int.ofNat (sumU (headU l)) = ((sumU (headU l) : Nat) : Int) := rfl
  simp only [Nat.zero_add, Nat.sub_zero] at l1 o1
  simp only [w1, w2, w3, w4, d1, d2, d3, t1, z1, b1, br_t, br_f, need_t, cond_false, Nat.zero_add, Nat.sub_zero, bleS, Bool.true_and, b2, b3, fd1, fd256, o1, l1, hsum, s0, fd65, fd16]
  refine put_leaf (k := 18) h2 ?_ rfl
  have hF := hH.app (RowU.sel4 (byU (sumU (headU l) / 16777216)).v (byU (sumU (headU l) / 65536)).v (byU (sumU (headU l) / 256)).v (byU (sumU (headU l))).v)
  have hF := hF.to (m := 1 + 1 + l.length + (1 + 1 + 1 + 1)) (M := frameU l) rfl rfl
  simp only [Nat.zero_add, Nat.sub_zero] at hF
  exact hF
def toldP : Told := (toldE.tree 8 (ok1 U8 fun l _ => l.all (okA U8)) (ans1 U8 putA)).tree 9 (ok1 U8 fun l _ => l.all (okA U8)) (ans1 U8 putA)
theorem toldP_ok : ToldS Try.prog toldP := Told.tree_ok (Told.tree_ok toldE_ok put_told) putr_told
end Go.Proofs.Ytiodkfbmcnfooaa.Ev
