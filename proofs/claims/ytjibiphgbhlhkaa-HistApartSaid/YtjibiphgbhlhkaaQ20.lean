/-
  The bits of a number, as the program has them: told to the evaluator.
-/
import Derived.Test.YtjibiphgbhlhkaaQ17
import Derived.Test.YtjibiphgbhlhkaaEff
set_option linter.unusedVariables false
set_option linter.unusedSimpArgs false
set_option linter.unusedSectionVars false
section
namespace Go.Proofs.Ytjibiphgbhlhkaa.Ev
open Go
def bitsN (a : Nat) : Nat := cond (nanB .f64 a) 9221120237041090561 a
def bitsSpec : List Value → Option Value
 | [.float .f64 a] => some (.int .u64 (Int.ofNat (bitsN a)))
 | _ => none
set_option maxRecDepth 1000000
theorem vc_bits1 (a : Nat) (K : AE → ASt → Prop) : funK Try.prog noTold 100 20 24 [.float .f64 a] st0 K =
  br (Ieee.double.order a a != some .eq) (K (.returned (.int .u64 (Int.ofNat 9221120237041090561))) st0) (need (!nanB .f64 a) (K (.returned (.int .u64 (Int.ofNat a))) st0)) := by kernel_rfl
theorem order_self (a : Nat) : (Ieee.double.order a a != some .eq) = nanB .f64 a := by
 show (Ieee.double.order a a != some .eq) = (Ieee.double.order a a).isNone
 unfold Ieee.Format.order
 cases h : Ieee.double.read a with
 | nan s p => rfl
 | infinity s => simp [Ieee.Datum.order]
 | number s m i => simp [Ieee.Datum.order]
theorem bits_main (a : Nat) : br (Ieee.double.order a a != some .eq) (isK (.int .u64 (Int.ofNat (bitsN a))) (.returned (.int .u64 (Int.ofNat 9221120237041090561))) st0) (need (!nanB .f64 a) (isK (.int .u64 (Int.ofNat (bitsN a))) (.returned (.int .u64 (Int.ofNat a))) st0)) := by
 rw [order_self]
 refine br_of (fun h => ?_) (fun h => need_of (by rw [h]; rfl) ?_)
 ·simp only [isK, bitsN, h, cond_true]
 ·simp only [isK, bitsN, h, cond_false]
def toldBits : Told := toldB.also 24 bitsSpec
theorem toldBits_ok : ToldS Try.prog toldBits := by
 refine Told.also_ok toldB_ok ?_
 intro args v hv
 unfold bitsSpec at hv
 split at hv
 ·rename_i a
  cases hv
  refine ⟨rfl, rfl, fun w args' ha => ?_⟩
  refine sym_is (fuel := 100) (n := 20) follows (noTold_ok _) ?_ w args' ha
  rw [vc_bits1]; exact bits_main a
 ·cases hv
def sameN (a b : Nat) : Bool := decide (bitsN a = bitsN b)
def sameSpec : List Value → Option Value
 | [.float .f64 a, .float .f64 b] => some (.bool (sameN a b))
 | _ => none
theorem vc_same1 (a b : Nat) (K : AE → ASt → Prop) : funK Try.prog toldBits 100 20 31 [.float .f64 a, .float .f64 b] st0 K =
  K (.returned (.bool (decide (Int.ofNat (bitsN a) = Int.ofNat (bitsN b))))) st0 := by kernel_rfl
theorem same_eq (a b : Nat) : decide (Int.ofNat (bitsN a) = Int.ofNat (bitsN b)) = sameN a b := by
 unfold sameN
 congr 1
 exact propext ⟨fun h => by injection h, fun h => by rw [h]⟩
def toldA : Told := toldBits.also 31 sameSpec
theorem toldA_ok : ToldS Try.prog toldA := by
 refine Told.also_ok toldBits_ok ?_
 intro args v hv
 unfold sameSpec at hv
 split at hv
 ·rename_i a b
  cases hv
  refine ⟨rfl, rfl, fun w args' ha => ?_⟩
  refine sym_is (fuel := 100) (n := 20) follows toldBits_ok ?_ w args' ha
  rw [vc_same1, same_eq]; rfl
 ·cases hv
end Go.Proofs.Ytjibiphgbhlhkaa.Ev
end
section
namespace Go.Proofs.Ytjibiphgbhlhkaa.Ev
open Go Go.RowKit
instance encI : Enc Int where
 es := 1
 enc a _ := .sc (.int .i64 a)
 dec c := match c 0 with | .sc (.int .i64 a) => a | _ => 0
 ok c := match c 0 with | .sc (.int .i64 _) => true | _ => false
 dflt := 0
 good c := (match c 0 with | .sc (.int .i64 _) => true | _ => false) = true
 okgood c h := h
 law c h w F j y hj ht := by
  have : j = 0 := by omega
  subst this
  revert h ht
  cases c 0 with
  | fr => intro h; cases h
  | sc x =>
   cases x with
   | int k a => cases k <;> first | (intro h; cases h; done) | exact fun _ ht => ht
   | _ => intro h; cases h
 back a := rfl
 mrg a b w F j y hj := ⟨fun h => h, fun h => h⟩
structure Vl where
 k : Int
 i : Int
 f : Nat
def vlE (v : Vl) (j : Nat) : Td := match j with
 | 0 => .sc (.int .i64 v.k)
 | 1 => .sc (.int .i64 v.i)
 | _ => .sc (.float .f64 v.f)
def vlD (c : Nat → Td) : Vl := match c 0, c 1, c 2 with
 | .sc (.int .i64 k), .sc (.int .i64 i), .sc (.float .f64 f) => ⟨k, i, f⟩
 | _, _, _ => ⟨0, 0, 0⟩
def vlOk (c : Nat → Td) : Bool := match c 0, c 1, c 2 with
 | .sc (.int .i64 k), .sc (.int .i64 i), .sc (.float .f64 f) => true
 | _, _, _ => false
theorem vlOk_inv {c : Nat → Td} (h : vlOk c = true) : c 0 = .sc (.int .i64 (vlD c).k) ∧ c 1 = .sc (.int .i64 (vlD c).i) ∧ c 2 = .sc (.float .f64 (vlD c).f) := by
 unfold vlOk at h
 split at h
 ·rename_i k i f h0 h1 h2
  simp only [vlD, h0, h1, h2, and_self]
 ·cases h
instance encV : Enc Vl where
 es := 3
 enc := vlE
 dec := vlD
 ok := vlOk
 dflt := ⟨0, 0, 0⟩
 good c := vlOk c = true
 okgood c h := h
 law c h w F j y hj ht := by
  obtain ⟨h0, h1, h2⟩ := vlOk_inv h
  match j, hj with
  | 0, _ => rw [h0] at ht; exact ht
  | 1, _ => rw [h1] at ht; exact ht
  | 2, _ => rw [h2] at ht; exact ht
 back a := rfl
 mrg a b w F j y hj := match j, hj with
  | 0, _ => ⟨fun h => h, fun h => h⟩
  | 1, _ => ⟨fun h => h, fun h => h⟩
  | 2, _ => ⟨fun h => h, fun h => h⟩
structure Wr where
 s : Int
 d : Int
 a : List Int
 ca : Nat
 v : List Vl
 cv : Nat
def wrE (w : Wr) (j : Nat) : Td := match j with
 | 0 => .sc (.int .i64 w.s)
 | 1 => .sc (.int .i64 w.d)
 | 2 => .fr 1 w.a.length w.ca (encL w.a)
 | _ => .fr 3 w.v.length w.cv (encL w.v)
def intD (t : Td) : Int := match t with | .sc (.int .i64 k) => k | _ => 0
def intOk (t : Td) : Bool := match t with | .sc (.int .i64 _) => true | _ => false
theorem intOk_inv {t : Td} (h : intOk t = true) : t = .sc (.int .i64 (intD t)) := by
 unfold intOk at h
 split at h
 ·rfl
 ·cases h
instance encW : Enc Wr where
 es := 4
 enc := wrE
 dec c := ⟨intD (c 0), intD (c 1), listT Int (c 2), nilT (c 2), listT Vl (c 3), nilT (c 3)⟩
 ok c := intOk (c 0) && intOk (c 1) && okT Int (c 2) && okT Vl (c 3)
 dflt := ⟨0, 0, [], 1, [], 1⟩
 good c := intOk (c 0) = true ∧ intOk (c 1) = true ∧ goodT Int (c 2) ∧ goodT Vl (c 3)
 okgood c h := by
  simp only [Bool.and_eq_true] at h
  exact ⟨h.1.1.1, h.1.1.2, okT_good h.1.2, okT_good h.2⟩
 law c h w F j y hj ht := by
  obtain ⟨h0, h1, h2, h3⟩ := h
  match j, hj with
  | 0, _ => rw [intOk_inv h0] at ht; exact ht
  | 1, _ => rw [intOk_inv h1] at ht; exact ht
  | 2, _ => exact goodT_TR (α := Int) h2 ht
  | 3, _ => exact goodT_TR (α := Vl) h3 ht
 back a := by
  obtain ⟨s, d, a, ca, v, cv⟩ := a
  show (⟨s, d, decL a.length (encL a), ca, decL v.length (encL v), cv⟩ : Wr) = _
  rw [decL_encL, decL_encL]
 mrg a b w F j y hj := match j, hj with
  | 0, _ => ⟨fun h => h, fun h => h⟩
  | 1, _ => ⟨fun h => h, fun h => h⟩
  | 2, _ => ⟨mrgL_true' (α := Int) (by decide), mrgL_false' (α := Int) (by decide)⟩
  | 3, _ => ⟨mrgL_true' (α := Vl) (by decide), mrgL_false' (α := Vl) (by decide)⟩
theorem allI (l : List Int) : l.all (okA Int) = true := by rw [List.all_eq_true]; exact fun _ _ => rfl
theorem allV (l : List Vl) : l.all (okA Vl) = true := by rw [List.all_eq_true]; exact fun _ _ => rfl
theorem okA_wr {w : Wr} (h1 : w.ca ≤ 1) (h2 : w.a.length ≤ 1000000) (h3 : w.cv ≤ 1) (h4 : w.v.length ≤ 1000000) : okA Wr w = true := by
 show (intOk (.sc (.int .i64 w.s)) && intOk (.sc (.int .i64 w.d)) && okT Int (tdL w.a w.ca) && okT Vl (tdL w.v w.cv)) = true
 rw [okT_tdL (allI _) h2 h1, okT_tdL (allV _) h4 h3]; rfl
theorem okA_wr_inv {w : Wr} (h : okA Wr w = true) : w.ca ≤ 1 ∧ w.a.length ≤ 1000000 ∧ w.cv ≤ 1 ∧ w.v.length ≤ 1000000 := by
 have h : (intOk (.sc (.int .i64 w.s)) && intOk (.sc (.int .i64 w.d)) && okT Int (tdL w.a w.ca) && okT Vl (tdL w.v w.cv)) = true := h
 simp only [Bool.and_eq_true] at h
 have h1 := okT_len h.1.2
 have h2 := okT_len h.2
 rw [listT_tdL, nilT_tdL] at h1 h2
 exact ⟨h1.2, h1.1, h2.2, h2.1⟩
end Go.Proofs.Ytjibiphgbhlhkaa.Ev
end
section
set_option maxRecDepth 1000000
namespace Go.Proofs.Ytjibiphgbhlhkaa.Ev
open Go Go.Proofs Go.RowKit
theorem all_at {l : List Wr} (h : l.all (okA Wr) = true) {k : Nat} (hk : k < l.length) : okA Wr (l.getD k Enc.dflt) = true := by
 rw [List.all_eq_true] at h
 exact h _ (by simp [List.getD, hk])
theorem cloneV_told : ToldW Try.prog 30 (okC 3) (ansC 3) := clone_told follows (fun n c f β K => by kernel_rfl) (fun es' f β K => by kernel_rfl)
def toldT : Told := toldA.tree 30 (okC 3) (ansC 3)
theorem toldT_ok : ToldS Try.prog toldT := Told.tree_ok toldA_ok cloneV_told
end Go.Proofs.Ytjibiphgbhlhkaa.Ev
end
section
set_option maxRecDepth 1000000
namespace Go.Proofs.Ytjibiphgbhlhkaa.Ev
open Go Go.Proofs
def slDo : List Nat := [5, 12, 13, 14]
def slDi : List Nat := [5, 12, 13, 14, 7, 19, 20, 21]
def lvD (b : Nat) : List Nat := cond (Nat.beq b 0) slDo slDi
def lvDo : AX → List Nat := fun x => slDo
def lvDi : AX → List Nat := fun x => match x with
 | .normal => slDi
 | _ => slDo
def FDo (l : List Wr) (out : List Vl) (c co : Nat) (i : Int) : AFr := mkF 52 [(5, .slice (some ⟨2, 0, some 0⟩) out.length co), (12, .slice (some ⟨0, 0, some 0⟩) l.length c), (13, .int .i64 (Int.ofNat l.length)), (14, .int .i64 i)]
def SDo (l : List Wr) (img out : List Vl) : ASt := mkS [some (rowO .look l), some (rowO .look img), some (rowO .mine out)]
def FDi (l : List Wr) (out : List Vl) (w : Wr) (c co : Nat) (i k : Int) : AFr := mkF 52 [(5, .slice (some ⟨2, 0, some 0⟩) out.length co), (12, .slice (some ⟨0, 0, some 0⟩) l.length c), (13, .int .i64 (Int.ofNat l.length)), (14, .int .i64 i), (7, .pointer (some ⟨3, 0, none⟩)), (19, .slice (some ⟨4, 0, some 0⟩) w.a.length w.ca), (20, .int .i64 (Int.ofNat w.a.length)), (21, .int .i64 k)]
def SDi (l : List Wr) (img out : List Vl) (w : Wr) : ASt := mkS [some (rowO .look l), some (rowO .look img), some (rowO .mine out), some (.cells [.int .i64 w.s, .int .i64 w.d, .slice (some ⟨4, 0, some 0⟩) w.a.length w.ca, .slice (some ⟨5, 0, some 0⟩) w.v.length w.cv] true 0), some (rowO .still w.a), some (rowO .still w.v)]
def dr1 (w : Wr) (out : List Vl) (k : Nat) : List Vl := if 0 ≤ w.a.getD k Enc.dflt ∧ w.a.getD k Enc.dflt < Int.ofNat out.length ∧ k < w.v.length then out.set (w.a.getD k Enc.dflt).toNat (w.v.getD k Enc.dflt) else out
def drW (w : Wr) (out : List Vl) : Nat → List Vl
 | 0 => out
 | k + 1 => dr1 w (drW w out k) k
def drL (l : List Wr) (out : List Vl) : Nat → List Vl
 | 0 => out
 | k + 1 => drW (l.getD k Enc.dflt) (drL l out k) (l.getD k Enc.dflt).a.length
def exDo (l : List Wr) (img : List Vl) (c co : Nat) : Nat → Kt → Prop := fun b K => K (.exit b) (FDo l (drL l img l.length) c co l.length) (SDo l img (drL l img l.length))
def exDi (l : List Wr) (img out : List Vl) (w : Wr) (c co : Nat) (i : Int) : Nat → Kt → Prop := fun b K => K (.exit b) (FDo l (drW w out w.a.length) c co i) (SDo l img (drW w out w.a.length))
def shpDo (l : List Wr) (img out : List Vl) (c co : Nat) (i' : Int) : AFr × ASt := (FDo l out c co i', SDo l img out)
def shpDi (l : List Wr) (img out : List Vl) (w : Wr) (c co : Nat) (i : Int) (k' : Int) : AFr × ASt := (FDi l out w c co i k', SDi l img out w)
theorem vc_dr (l : List Wr) (img : List Vl) (c d : Nat) (β : Bs) (K : AE → ASt → Prop) : lawE Try.prog toldT 100 20 β (fun _ => 0) (cnOf 2 lvD) (exDo l img c d) 28 [.slice (some ⟨0, 0, some 0⟩) l.length c, .slice (some ⟨1, 0, some 0⟩) img.length d] (mkS [some (rowO .look l), some (rowO .look img)]) K =
 (need (true && Nat.ble (0 + List.length img) img.length) (need (okC 3 [Ta.cell (.fr 3 img.length d fun i => encL img (0 + i))]) (LoopJ Try.prog β (exDo l img c d) 0 (loopOf Try.prog 28 0) (mkF 52 [(5, .slice (some ⟨2, 0, some 0⟩) img.length d), (12, .slice (some ⟨0, 0, some 0⟩) l.length c), (13, .int .i64 (Int.ofNat l.length)), (14, .int .i64 (0 : Int))]) (mkS [some (.row .look 4 0 l.length (encL l)), some (.row .look 3 0 img.length (encL img)), some (.row .mine 3 0 img.length fun i => encL img (0 + i))]) ∧ K (.returned (.slice (some ⟨2, 0, some 0⟩) (List.length (drL l img l.length)) d)) (SDo l img (drL l img l.length))))) := by kernel_rfl
theorem vc_do_r (l : List Wr) (img out : List Vl) (c co : Nat) (i : Int) (β : Bs) (N : Kt) : roundJ Try.prog toldT 100 20 β (fun _ => 0) (cnOf 2 lvD) (exDi l img out (l.getD i.toNat Enc.dflt) c co i) 28 0 2 lvDo (FDo l out c co i) (SDo l img out) N =
 (br (decide (i < Int.ofNat l.length)) (need (decide ((0 : Int) ≤ i)) (need (Nat.blt (Int.toNat i) l.length) (need (Nat.ble 0 (0 + Int.toNat i) && Nat.blt (0 + Int.toNat i) l.length) (LoopJ Try.prog β (exDi l img out (List.getD l (Int.toNat i) Enc.dflt) c co i) 2 (loopOf Try.prog 28 2) (FDi l out (Wr.mk (Wr.s (List.getD l (0 + Int.toNat i) Enc.dflt)) (Wr.d (List.getD l (0 + Int.toNat i) Enc.dflt)) (Wr.a (List.getD l (0 + Int.toNat i) Enc.dflt)) (Wr.ca (List.getD l (0 + Int.toNat i) Enc.dflt)) (Wr.v (List.getD l (0 + Int.toNat i) Enc.dflt)) (Wr.cv (List.getD l (0 + Int.toNat i) Enc.dflt))) c co i (0 : Int)) (SDi l img out (Wr.mk (Wr.s (List.getD l (0 + Int.toNat i) Enc.dflt)) (Wr.d (List.getD l (0 + Int.toNat i) Enc.dflt)) (Wr.a (List.getD l (0 + Int.toNat i) Enc.dflt)) (Wr.ca (List.getD l (0 + Int.toNat i) Enc.dflt)) (Wr.v (List.getD l (0 + Int.toNat i) Enc.dflt)) (Wr.cv (List.getD l (0 + Int.toNat i) Enc.dflt)))) ∧ N .normal (mkF 52 [(5, .slice (some ⟨2, 0, some 0⟩) (List.length (drW (List.getD l (Int.toNat i) Enc.dflt) out (List.length (Wr.a (List.getD l (Int.toNat i) Enc.dflt))))) co), (12, .slice (some ⟨0, 0, some 0⟩) l.length c), (13, .int .i64 (Int.ofNat l.length)), (14, .int .i64 (IntKind.wrap .i64 (i + (1 : Int))))]) (mkS [some (.row .look 4 0 l.length (encL l)), some (.row .look 3 0 img.length (encL img)), some (.row .mine 3 0 (List.length (drW (List.getD l (Int.toNat i) Enc.dflt) out (List.length (Wr.a (List.getD l (Int.toNat i) Enc.dflt))))) (encL (drW (List.getD l (Int.toNat i) Enc.dflt) out (List.length (Wr.a (List.getD l (Int.toNat i) Enc.dflt))))))]))))) (onP N (.exit 0) (shpDo l img out c co i))) := by kernel_rfl
theorem vc_di_r (l : List Wr) (img out : List Vl) (w : Wr) (c co : Nat) (i k : Int) (β : Bs) (N : Kt) (ex : Nat → Kt → Prop) : roundJ Try.prog toldT 100 20 β (fun _ => 0) (cnOf 2 lvD) ex 28 2 2 lvDi (FDi l out w c co i k) (SDi l img out w) N =
 (br (decide (k < Int.ofNat (List.length (Wr.a w)))) (need (decide ((0 : Int) ≤ k)) (need (Nat.blt (Int.toNat k) (List.length (Wr.a w))) (need (Nat.ble 0 (0 + Int.toNat k) && Nat.blt (0 + Int.toNat k) (List.length (Wr.a w))) (br (decide (List.getD (Wr.a w) (0 + Int.toNat k) (0 : Int) ≥ (0 : Int))) (br (decide (List.getD (Wr.a w) (0 + Int.toNat k) (0 : Int) < Int.ofNat out.length)) (br (decide (k < Int.ofNat (List.length (Wr.v w)))) (need (decide ((0 : Int) ≤ k)) (need (Nat.blt (Int.toNat k) (List.length (Wr.v w))) (need (Nat.ble 0 (0 + Int.toNat k) && Nat.blt (0 + Int.toNat k) (List.length (Wr.v w))) (need (decide ((0 : Int) ≤ List.getD (Wr.a w) (0 + Int.toNat k) (0 : Int))) (need (Nat.blt (Int.toNat (List.getD (Wr.a w) (0 + Int.toNat k) (0 : Int))) out.length) (need (Nat.blt (0 + Int.toNat (List.getD (Wr.a w) (0 + Int.toNat k) (0 : Int))) out.length) (N .normal (mkF 52 [(5, .slice (some ⟨2, 0, some 0⟩) out.length co), (12, .slice (some ⟨0, 0, some 0⟩) l.length c), (13, .int .i64 (Int.ofNat l.length)), (14, .int .i64 i), (7, .pointer (some ⟨3, 0, none⟩)), (19, .slice (some ⟨4, 0, some 0⟩) (List.length (Wr.a w)) (Wr.ca w)), (20, .int .i64 (Int.ofNat (List.length (Wr.a w)))), (21, .int .i64 (IntKind.wrap .i64 (k + (1 : Int))))]) (mkS [some (.row .look 4 0 l.length (encL l)), some (.row .look 3 0 img.length (encL img)), some (.row .mine 3 0 out.length (putT (0 + Int.toNat (List.getD (Wr.a w) (0 + Int.toNat k) (0 : Int))) 0 [.sc (.int .i64 (Vl.k (List.getD (Wr.v w) (0 + Int.toNat k) Enc.dflt))), .sc (.int .i64 (Vl.i (List.getD (Wr.v w) (0 + Int.toNat k) Enc.dflt))), .sc (.float .f64 (Vl.f (List.getD (Wr.v w) (0 + Int.toNat k) Enc.dflt)))] (encL out))), some (.cells [.int .i64 (Wr.s w), .int .i64 (Wr.d w), .slice (some ⟨4, 0, some 0⟩) (List.length (Wr.a w)) (Wr.ca w), .slice (some ⟨5, 0, some 0⟩) (List.length (Wr.v w)) (Wr.cv w)] true 0), some (.row .still 1 0 (List.length (Wr.a w)) (encL (Wr.a w))), some (.row .still 3 0 (List.length (Wr.v w)) (encL (Wr.v w)))])))))))) (onP N .normal (shpDi l img out w c co i (IntKind.wrap .i64 (k + (1 : Int)))))) (onP N .normal (shpDi l img out w c co i (IntKind.wrap .i64 (k + (1 : Int)))))) (onP N .normal (shpDi l img out w c co i (IntKind.wrap .i64 (k + (1 : Int))))))))) (onP N (.exit 2) (shpDo l img out c co i))) := by kernel_rfl
end Go.Proofs.Ytjibiphgbhlhkaa.Ev
end
section
namespace Go.Proofs.Ytjibiphgbhlhkaa.Ev
open Go Go.Proofs Go.RowKit
theorem row_put {α : Type} [Enc α] {k : Rk} {l : List α} {a : α} {ts : List Td} {i0 : Nat} {ρ : Rho} {s : Spot} {w : World} (hl : ts.length = Enc.es α) (h : ∀ j, j < Enc.es α → nthT ts j = Enc.enc a j)
  (hi : i0 < l.length) (ho : ObjR ρ (.row k (Enc.es α) 0 l.length (putT i0 0 ts (encL l))) s w) : ObjR ρ (.row k (Enc.es α) 0 (l.set i0 a).length (encL (l.set i0 a))) s w := by
 refine ho.row_TR (by simp) fun i _ hil j hj F y ht => ?_
 have hb : (Nat.ble 0 j && Nat.blt j (0 + ts.length)) = true := by rw [hl]; simp; exact hj
 unfold putT at ht
 rw [hb] at ht
 simp only [cond_true, Nat.sub_zero] at ht
 rw [h j hj] at ht
 show TR w F (Enc.enc ((l.set i0 a).getD i Enc.dflt) j) y
 by_cases hii : i = i0
 ·subst hii
  rw [Nat.beq_refl] at ht
  have : (l.set i a).getD i Enc.dflt = a := by simp [List.getD, hi]
  rw [this]
  exact (Enc.mrg _ _ w F j y hj).1 ht
 ·rw [beq_false hii] at ht
  have : (l.set i0 a).getD i Enc.dflt = l.getD i Enc.dflt := by simp [List.getD, List.getElem?_set_ne (Ne.symm hii)]
  rw [this]
  exact (Enc.mrg a (l.getD i Enc.dflt) w F j y hj).2 ht
theorem dr1_len (w : Wr) (out : List Vl) (k : Nat) : (dr1 w out k).length = out.length := by
 unfold dr1; split <;> simp
theorem drW_len (w : Wr) (out : List Vl) (k : Nat) : (drW w out k).length = out.length := by
 induction k with
 | zero => rfl
 | succ k ih => simp only [drW, dr1_len, ih]
theorem di_loop {l : List Wr} {img out : List Vl} {w : Wr} {c co : Nat} {i : Int} {β : Bs} (hβ : β.X.length = 2) (hw6 : w.a.length ≤ 1000000) : LoopJ Try.prog β (exDi l img out w c co i) 2 (loopOf Try.prog 28 2) (FDi l out w c co i (0 : Nat)) (SDi l img out w) := by
 refine loop_rule (fun k : Nat => k ≤ w.a.length) (fun k => FDi l (drW w out k) w c co i k) (fun k => SDi l img (drW w out k) w) (fun k => w.a.length - k) (fun k hk K hK => ?_) 0 (Nat.zero_le _)
 have hK : K (.exit 2) (FDo l (drW w out w.a.length) c co i) (SDo l img (drW w out w.a.length)) := hK
 show J _ β _ _ _ (Nn β (fun k : Nat => k ≤ w.a.length) (fun k => w.a.length - k) (fun k : Nat => FDi l (drW w out k) w c co i k) (fun k => SDi l img (drW w out k) w) k K)
 refine roundJ_ok (E := 2) (lvs := lvD) (un := fun _ => 0) (fuel := 100) (n := 20) (ex := fun _ _ => False) follows toldT_ok hβ (lv := lvDi) ?_
 rw [vc_di_r]
 by_cases hkn : k < w.a.length
 ·have c1 : decide ((k : Int) < Int.ofNat w.a.length) = true := by simpa using hkn
  have c2 : decide ((0 : Int) ≤ (k : Int)) = true := by simp
  have e0 : Int.toNat (k : Int) = k := Int.toNat_natCast k
  have c3 : Nat.blt k w.a.length = true := by simpa using hkn
  have c5 : Nat.ble 0 k = true := by simp
  have hw : IntKind.wrap .i64 ((k : Int) + 1) = ((k + 1 : Nat) : Int) := w64 (by omega) (by omega)
  simp only [c1, c2, e0, Nat.zero_add, c3, c5, Bool.true_and, br_t, need_t, hw]
  have hid : (¬ (0 ≤ w.a.getD k Enc.dflt ∧ w.a.getD k Enc.dflt < Int.ofNat (drW w out k).length ∧ k < w.v.length)) → onP (Nn β (fun k : Nat => k ≤ w.a.length) (fun k => w.a.length - k) (fun k : Nat => FDi l (drW w out k) w c co i k) (fun k => SDi l img (drW w out k) w) k K) .normal (shpDi l img (drW w out k) w c co i ((k + 1 : Nat) : Int)) := fun hn => by
   have : drW w out (k + 1) = drW w out k := by show dr1 w (drW w out k) k = _; unfold dr1; rw [if_neg hn]
   refine Nn.next (I := fun k : Nat => k ≤ w.a.length) (m := fun k => w.a.length - k) (F := fun k : Nat => FDi l (drW w out k) w c co i k) (S := fun k => SDi l img (drW w out k) w) (p := k) (k + 1) hkn (by omega) ?_
   rw [this]
   exact Seen.refl _ _ _
  have hdef : w.a.getD k (0 : Int) = w.a.getD k Enc.dflt := rfl
  rw [hdef]
  generalize hat : w.a.getD k Enc.dflt = at_ at hid ⊢
  refine br_of (fun q1 => ?_) (fun q1 => hid fun h => by simp at q1; omega)
  refine br_of (fun q2 => ?_) (fun q2 => hid fun h => by simp at q2; have := h.2.1; simp at this; omega)
  refine br_of (fun q3 => ?_) (fun q3 => hid fun h => by simp at q3; omega)
  have q1 := of_decide_eq_true q1
  have q2 := of_decide_eq_true q2
  have q3 := of_decide_eq_true q3
  have q1' : (0 : Int) ≤ at_ := q1
  have q2' : at_ < ((drW w out k).length : Int) := q2
  have q3' : k < w.v.length := by simpa using q3
  have b1 : Nat.blt k w.v.length = true := by simpa using q3'
  have b2 : decide ((0 : Int) ≤ at_) = true := decide_eq_true q1'
  have hlt : at_.toNat < (drW w out k).length := by omega
  have b3 : Nat.blt at_.toNat (drW w out k).length = true := by simpa using hlt
  simp only [b1, b2, b3, need_t]
  have hd : drW w out (k + 1) = (drW w out k).set at_.toNat (w.v.getD k Enc.dflt) := by
   show dr1 w (drW w out k) k = _
   unfold dr1
   rw [hat, if_pos ⟨q1', q2, q3'⟩]
  refine Nn.next (I := fun k : Nat => k ≤ w.a.length) (m := fun k => w.a.length - k) (F := fun k : Nat => FDi l (drW w out k) w c co i k) (S := fun k => SDi l img (drW w out k) w) (p := k) (k + 1) hkn (by omega) ?_
  rw [hd]
  have hF : FDi l ((drW w out k).set at_.toNat (w.v.getD k Enc.dflt)) w c co i ((k + 1 : Nat) : Int) = FDi l (drW w out k) w c co i ((k + 1 : Nat) : Int) := by
   unfold FDi; rw [List.length_set]
  rw [hF]
  refine Seen.objs rfl fun q o2 h => ?_
  match q, h with
  | 0, h => cases h; exact ⟨_, rfl, rfl, fun _ _ _ h => h⟩
  | 1, h => cases h; exact ⟨_, rfl, rfl, fun _ _ _ h => h⟩
  | 2, h =>
   cases h
   refine ⟨_, rfl, rfl, fun ρ s w' h => row_put (α := Vl) rfl (fun j hj => ?_) hlt h⟩
   match j, hj with
   | 0, _ => rfl
   | 1, _ => rfl
   | 2, _ => rfl
  | 3, h => cases h; exact ⟨_, rfl, rfl, fun _ _ _ h => h⟩
  | 4, h => cases h; exact ⟨_, rfl, rfl, fun _ _ _ h => h⟩
  | 5, h => cases h; exact ⟨_, rfl, rfl, fun _ _ _ h => h⟩
 ·have c1 : decide ((k : Int) < Int.ofNat w.a.length) = false := by simpa using hkn
  have hkn' : k = w.a.length := by omega
  simp only [c1, br_f]
  subst hkn'
  exact Nn.exit (Seen.refl _ _ _) hK
theorem do_loop {l : List Wr} {img : List Vl} {c co : Nat} {β : Bs} (hβ : β.X.length = 2) (hn6 : l.length ≤ 1000000) (hok : l.all (okA Wr) = true) : LoopJ Try.prog β (exDo l img c co) 0 (loopOf Try.prog 28 0) (FDo l img c co (0 : Nat)) (SDo l img img) := by
 refine loop_rule (fun k : Nat => k ≤ l.length) (fun k => FDo l (drL l img k) c co k) (fun k => SDo l img (drL l img k)) (fun k => l.length - k) (fun k hk K hK => ?_) 0 (Nat.zero_le _)
 have hK : K (.exit 0) (FDo l (drL l img l.length) c co l.length) (SDo l img (drL l img l.length)) := hK
 show J _ β _ _ _ (Nn β (fun k : Nat => k ≤ l.length) (fun k => l.length - k) (fun k : Nat => FDo l (drL l img k) c co k) (fun k => SDo l img (drL l img k)) k K)
 refine roundJ_ok (E := 2) (lvs := lvD) (un := fun _ => 0) (fuel := 100) (n := 20) (ex := exDi l img (drL l img k) (l.getD (k : Int).toNat Enc.dflt) c co k) follows toldT_ok hβ (lv := lvDo) ?_
 rw [vc_do_r]
 by_cases hkn : k < l.length
 ·have c1 : decide ((k : Int) < Int.ofNat l.length) = true := by simpa using hkn
  have c2 : decide ((0 : Int) ≤ (k : Int)) = true := by simp
  have e0 : Int.toNat (k : Int) = k := Int.toNat_natCast k
  have c3 : Nat.blt k l.length = true := by simpa using hkn
  have c5 : Nat.ble 0 k = true := by simp
  have hw : IntKind.wrap .i64 ((k : Int) + 1) = ((k + 1 : Nat) : Int) := w64 (by omega) (by omega)
  obtain ⟨w1, w2, w3, w4⟩ := okA_wr_inv (all_at hok hkn)
  simp only [c1, c2, e0, Nat.zero_add, c3, c5, Bool.true_and, br_t, need_t, hw]
  refine ⟨di_loop (w := l.getD k Enc.dflt) hβ w2, ?_⟩
  exact Nn.next (I := fun k : Nat => k ≤ l.length) (m := fun k => l.length - k) (F := fun k : Nat => FDo l (drL l img k) c co k) (S := fun k => SDo l img (drL l img k)) (p := k) (k + 1) hkn (by omega) (Seen.refl _ _ _)
 ·have c1 : decide ((k : Int) < Int.ofNat l.length) = false := by simpa using hkn
  have hkn' : k = l.length := by omega
  simp only [c1, br_f]
  subst hkn'
  exact Nn.exit (Seen.refl _ _ _) hK
theorem drain_told : ToldW Try.prog 28 (ok2 Wr Vl fun l _ _ _ => l.all (okA Wr)) (ans2 Wr Vl fun l _ m d => .ret (.cell (ownL (drL l m l.length) d))) := by
 refine told2 follows fun l c m d hl hc hm hd hok => ⟨toldT, 100, 20, fun _ => 0, lvD, exDo l m c d, toldT_ok, fun β hβ => ?_⟩
 show lawE _ _ _ _ _ _ (cnOf 2 lvD) _ _ _ _ _
 rw [vc_dr]
 have hz : (fun i => encL m (0 + i)) = encL m := by funext i; rw [Nat.zero_add]
 refine need_of (by simp) (need_of (okC_of hm hd) ⟨?_, ?_⟩)
 ·rw [hz]; exact do_loop hβ hl hok
 ·exact ⟨[2], .inr (.inl ⟨2, 0, 0, (drL l m l.length).length, encL (drL l m l.length), d, rfl, rfl, fun _ => rfl, rfl, Nat.le_refl _, by omega, fun i hi j hj => by rw [Nat.zero_add]⟩), by simp⟩
end Go.Proofs.Ytjibiphgbhlhkaa.Ev
end
section
namespace Go.Proofs.Ytjibiphgbhlhkaa.Ev
open Go Go.Proofs Go.RowKit
class EncM (α : Type) [Enc α] : Prop where
 cong : ∀ (c c' : Nat → Td), (∀ j, j < Enc.es α → c j = c' j) → (Enc.dec c : α) = Enc.dec c' ∧ Enc.ok α c = Enc.ok α c'
 mt : ∀ (a b : α), Enc.dec (fun j => mrgT true (Enc.enc a j) (Enc.enc b j)) = a ∧ Enc.ok α (fun j => mrgT true (Enc.enc a j) (Enc.enc b j)) = Enc.ok α (Enc.enc a)
 mf : ∀ (a b : α), Enc.dec (fun j => mrgT false (Enc.enc a j) (Enc.enc b j)) = b ∧ Enc.ok α (fun j => mrgT false (Enc.enc a j) (Enc.enc b j)) = Enc.ok α (Enc.enc b)
section
variable {α : Type} [Enc α] [EncM α]
theorem okL_congr {n : Nat} {e e' : Nat → Nat → Td} (h : ∀ i, i < n → Enc.ok α (e i) = Enc.ok α (e' i)) : okL α n e = okL α n e' := by
 unfold okL
 rw [Bool.eq_iff_iff, List.all_eq_true, List.all_eq_true]
 exact ⟨fun k i hi => by rw [← h i (List.mem_range.1 hi)]; exact k i hi, fun k i hi => by rw [h i (List.mem_range.1 hi)]; exact k i hi⟩
end
end Go.Proofs.Ytjibiphgbhlhkaa.Ev
end
section
set_option maxRecDepth 1000000
namespace Go.Proofs.Ytjibiphgbhlhkaa.Ev
open Go Go.Proofs Go.RowKit
structure U8 where
 v : Int
def u8E (a : U8) (_ : Nat) : Td := .sc (.int .u8 a.v)
def u8D (c : Nat → Td) : U8 := match c 0 with
 | .sc (.int .u8 a) => ⟨a⟩
 | _ => ⟨0⟩
def u8Ok (c : Nat → Td) : Bool := match c 0 with
 | .sc (.int .u8 a) => decide (0 ≤ a) && decide (a < 256)
 | _ => false
theorem u8Ok_inv {c : Nat → Td} (h : u8Ok c = true) : c 0 = .sc (.int .u8 (u8D c).v) ∧ 0 ≤ (u8D c).v ∧ (u8D c).v < 256 := by
 unfold u8Ok at h
 split at h
 ·rename_i a h0
  simp only [Bool.and_eq_true, decide_eq_true_eq] at h
  simp only [u8D, h0]
  exact ⟨trivial, h.1, h.2⟩
 ·cases h
instance encU : Enc U8 where
 es := 1
 enc := u8E
 dec := u8D
 ok := u8Ok
 dflt := ⟨0⟩
 good c := u8Ok c = true
 okgood c h := h
 law c h w F j y hj ht := by
  have : j = 0 := by omega
  subst this
  rw [(u8Ok_inv h).1] at ht
  exact ht
 back a := rfl
 mrg a b w F j y hj := ⟨fun h => h, fun h => h⟩
instance : EncM U8 where
 cong c c' h := by
  have h0 : c 0 = c' 0 := h 0 (by show 0 < 1; omega)
  exact ⟨by show u8D c = u8D c'; unfold u8D; rw [h0], by show u8Ok c = u8Ok c'; unfold u8Ok; rw [h0]⟩
 mt a b := ⟨rfl, rfl⟩
 mf a b := ⟨rfl, rfl⟩
def okU (b : U8) : Bool := decide (0 ≤ b.v) && decide (b.v < 256)
theorem okA_u8 (a : U8) : okA U8 a = okU a := rfl
theorem okU_iff (a : U8) : okA U8 a = true ↔ 0 ≤ a.v ∧ a.v < 256 := by
 rw [okA_u8]; simp [okU]
theorem all_getU {l : List U8} (h : l.all (okA U8) = true) {i : Nat} (hi : i < l.length) : 0 ≤ (l.getD i Enc.dflt).v ∧ (l.getD i Enc.dflt).v < 256 := by
 rw [List.all_eq_true] at h
 exact (okU_iff _).1 (h _ (by simp [List.getD, hi]))
theorem u8_ext {a b : U8} (h : a.v = b.v) : a = b := by cases a; cases b; simp at h; subst h; rfl
theorem mid_get {α : Type} (l : List α) {k n i : Nat} (h : k + n ≤ l.length) (hi : i < n) (d : α) : ((l.drop k).take n)[i]? = some (l.getD (k + i) d) := by
 rw [List.getElem?_take, if_pos hi, List.getElem?_drop]
 simp [List.getD, show k + i < l.length by omega]
def strU (l : List U8) : ByteArray := ⟨(l.map fun b => UInt8.ofNat b.v.toNat).toArray⟩
theorem strOf_mid (l : List U8) {k n : Nat} (h : k + n ≤ l.length) : strOf n (fun j => encL l (k + j)) = strU ((l.drop k).take n) := by
 unfold strOf strU
 congr 2
 apply List.ext_getElem?
 intro i
 rw [List.getElem?_map, List.getElem?_map]
 rcases Nat.lt_or_ge i n with hi | hi
 ·rw [List.getElem?_range hi, mid_get l h hi Enc.dflt]; rfl
 ·rw [List.getElem?_eq_none (by simpa using hi), List.getElem?_eq_none (by simp; omega)]; rfl
theorem strOf_all (l : List U8) : strOf l.length (encL l) = strU l := by
 have := strOf_mid l (k := 0) (n := l.length) (by omega)
 simp only [Nat.zero_add, List.drop_zero, List.take_length] at this
 exact this
theorem strU_inj {l m : List U8} (hl : l.all (okA U8) = true) (hm : m.all (okA U8) = true) : strU l = strU m ↔ l = m := by
 constructor
 ·intro h
  unfold strU at h
  have h1 : (l.map fun b => UInt8.ofNat b.v.toNat) = m.map fun b => UInt8.ofNat b.v.toNat := by
   have := congrArg ByteArray.data h
   simpa using this
  have hlen : l.length = m.length := by
   have := congrArg List.length h1
   simpa using this
  apply List.ext_getElem hlen
  intro i h2 h3
  have h4 := congrArg (fun q => q[i]?) h1
  simp only [List.getElem?_map, List.getElem?_eq_getElem h2, List.getElem?_eq_getElem h3, Option.map_some, Option.some.injEq] at h4
  have a1 := all_getU hl h2
  have a2 := all_getU hm h3
  simp only [List.getD, List.getElem?_eq_getElem h2, List.getElem?_eq_getElem h3, Option.getD_some] at a1 a2
  have h5 := congrArg UInt8.toNat h4
  simp only [UInt8.toNat_ofNat'] at h5
  exact u8_ext (by omega)
 ·intro h; rw [h]
theorem allB_mid (l : List U8) (n k : Nat) : allB n (fun j => encL l (k + j)) = true := by
 unfold allB
 rw [List.all_eq_true]
 exact fun _ _ => rfl
theorem wrap8 (n : Nat) : IntKind.wrap .u8 (n : Int) = ((n % 256 : Nat) : Int) := by
 unfold IntKind.wrap
 simp [IntKind.signed, IntKind.bits]
theorem wrap64u {n : Nat} (h : n < 18446744073709551616) : IntKind.wrap .u64 (n : Int) = n := by
 unfold IntKind.wrap
 simp [IntKind.signed, IntKind.bits]
 omega
theorem fdivN (n k : Nat) : Int.fdiv (n : Int) (k : Int) = ((n / k : Nat) : Int) := (Int.ofNat_fdiv n k).symm
def isU (t : Td) : Prop := ∃ v : Int, t = .sc (.int .u8 v)
theorem mrgU {t u : Td} (ht : isU t) (hu : isU u) : mrgT true t u = t ∧ mrgT false t u = u ∧ ∀ b, isU (mrgT b t u) := by
 obtain ⟨v, rfl⟩ := ht
 obtain ⟨v', rfl⟩ := hu
 exact ⟨rfl, rfl, fun b => ⟨cond b v v', rfl⟩⟩
structure RowU (e : Nat → Nat → Td) (n : Nat) (L : List U8) : Prop where
 len : n = L.length
 at_ : ∀ i, i < n → e i 0 = encL L i 0
 u : ∀ i, isU (e i 0)
theorem RowU.enc (L : List U8) : RowU (encL L) L.length L := ⟨rfl, fun _ _ => rfl, fun i => ⟨_, rfl⟩⟩
theorem RowU.zero (n : Nat) : RowU (fun _ k => nthT [.sc (.int .u8 0)] k) n (List.replicate n ⟨0⟩) := ⟨by simp, fun i hi => by simp [encL, List.getD, hi]; rfl, fun i => ⟨0, rfl⟩⟩
theorem RowU.app {e1 e2 : Nat → Nat → Td} {n1 n2 : Nat} {L1 L2 : List U8} (h1 : RowU e1 n1 L1) (h2 : RowU e2 n2 L2) : RowU (fun i k => mrgT (Nat.blt i n1) (e1 i k) (e2 (i - n1) k)) (n1 + n2) (L1 ++ L2) := by
 refine ⟨by rw [h1.len, h2.len, List.length_append], fun i hi => ?_, fun i => (mrgU (h1.u i) (h2.u _)).2.2 _⟩
 have hu := mrgU (h1.u i) (h2.u (i - n1))
 by_cases hil : i < n1
 ·have hb : Nat.blt i n1 = true := by simpa using hil
  show mrgT (Nat.blt i n1) _ _ = _
  rw [hb, hu.1, h1.at_ i hil, encL_app_lt _ _ (by rw [← h1.len]; exact hil)]
 ·show mrgT (Nat.blt i n1) _ _ = _
  rw [blt_false hil, hu.2.1, h2.at_ _ (by omega), encL_app_ge _ _ (by rw [← h1.len]; omega), ← h1.len]
theorem RowU.sub {e : Nat → Nat → Td} {n k m : Nat} {L : List U8} (h : RowU e n L) (hk : k + m ≤ n) : RowU (fun i => e (k + i)) m ((L.drop k).take m) := by
 have hl := h.len
 refine ⟨by simp; omega, fun i hi => ?_, fun i => h.u _⟩
 show e (k + i) 0 = _
 rw [h.at_ _ (by omega)]
 show Enc.enc (L.getD (k + i) Enc.dflt) 0 = Enc.enc (((L.drop k).take m).getD i Enc.dflt) 0
 have := mid_get L (k := k) (n := m) (i := i) (by omega) hi Enc.dflt
 simp only [List.getD] at this ⊢
 rw [this]; rfl
theorem RowU.put {e : Nat → Nat → Td} {n i0 : Nat} {v : Int} {L : List U8} (h : RowU e n L) (hi : i0 < n) : RowU (putT i0 0 [.sc (.int .u8 v)] e) n (L.set i0 ⟨v⟩) := by
 have hl := h.len
 refine ⟨by simp [hl], fun i hi' => ?_, fun i => (mrgU ⟨v, rfl⟩ (h.u i)).2.2 _⟩
 have hu := mrgU (t := .sc (.int .u8 v)) ⟨v, rfl⟩ (h.u i)
 show mrgT (Nat.beq i i0) (.sc (.int .u8 v)) (e i 0) = Enc.enc ((L.set i0 ⟨v⟩).getD i Enc.dflt) 0
 by_cases hii : i = i0
 ·subst hii
  rw [Nat.beq_refl, hu.1]
  have : (L.set i ⟨v⟩).getD i Enc.dflt = ⟨v⟩ := by simp [List.getD, show i < L.length by omega]
  rw [this]; rfl
 ·rw [beq_false hii, hu.2.1, h.at_ i hi']
  have : (L.set i0 ⟨v⟩).getD i Enc.dflt = L.getD i Enc.dflt := by simp [List.getD, List.getElem?_set_ne (Ne.symm hii)]
  rw [this]; rfl
theorem RowU.to {e : Nat → Nat → Td} {n m : Nat} {L M : List U8} (h : RowU e n L) (hn : m = n) (hL : L = M) : RowU e m M := by subst hn hL; exact h
theorem RowU.okT {e : Nat → Nat → Td} {n c : Nat} {L : List U8} (h : RowU e n L) (hok : L.all (okA U8) = true) (hn : n ≤ 1000000) (hc : c ≤ 1) : Ev.okT U8 (Td.fr 1 n c e) = true := by
 have hl := h.len
 subst hl
 simp only [Ev.okT, Bool.or_eq_true, Bool.and_eq_true]
 refine .inl ⟨⟨⟨Nat.beq_refl _, ?_⟩, Nat.ble_eq_true_of_le hc⟩, Nat.ble_eq_true_of_le hn⟩
 rw [okL_congr (e' := encL L) fun i hi => by show u8Ok (e i) = u8Ok (encL L i); unfold u8Ok; rw [h.at_ i hi]]
 exact okL_encL hok
theorem RowU.obj {e : Nat → Nat → Td} {n : Nat} {L : List U8} (h : RowU e n L) {k : Rk} (ρ : Rho) (s : Spot) (w : World) (ho : ObjR ρ (.row k 1 0 n e) s w) : ObjR ρ (rowO k L) s w := by
 have hl := h.len
 subst hl
 refine ho.row_TR rfl fun i _ hi j hj F y ht => ?_
 have hj : j < 1 := hj
 have : j = 0 := by omega
 subst this
 rw [h.at_ i hi] at ht
 exact ht
theorem RowU.str {e : Nat → Nat → Td} {n : Nat} {L : List U8} (h : RowU e n L) : strOf n e = strU L := by
 have hl := h.len
 subst hl
 rw [← strOf_all]
 unfold strOf
 congr 2
 exact List.map_congr_left fun i hi => by rw [h.at_ i (List.mem_range.1 hi)]
theorem RowU.allB {e : Nat → Nat → Td} {n m : Nat} {L : List U8} (h : RowU e n L) : Ev.allB m e = true := by
 unfold Ev.allB
 rw [List.all_eq_true]
 intro i _
 obtain ⟨v, hv⟩ := h.u i
 rw [hv]; rfl
theorem RowU.leaf {e : Nat → Nat → Td} {n k : Nat} {L : List U8} {l : List (Option AObj)} (h : RowU e n L) (hl : l[k]? = some (some (.row .mine 1 0 n e))) : objsR l (atL l.length k (rowO .mine L)) := outAt hl rfl h.obj
theorem Seen.canon {β : Bs} {E : Nat} {slots : List Nat} {f F : AFr} {st S : ASt} (hβ : β.X.length = E) (h : ∀ K : AFr → ASt → Prop, canonK E slots K f st = K F S) : Seen β f st F S := fun ρ a w hr => by
 have h1 : canonK E slots (fun f1 st1 => f1 = F ∧ st1 = S) f st := by rw [h]; exact ⟨rfl, rfl⟩
 obtain ⟨ρ', f', st', ⟨rfl, rfl⟩, h2⟩ := canonK_ok h1 hβ hr
 exact ⟨ρ', h2⟩
theorem RowU.sel3 (v0 v1 v2 : Int) : RowU (fun i k => selT 1 (1 + 1 + 1) [.sc (.int .u8 v0), .sc (.int .u8 v1), .sc (.int .u8 v2)] i k) (1 + 1 + 1) [⟨v0⟩, ⟨v1⟩, ⟨v2⟩] := ⟨rfl, fun i hi => match i, hi with
 | 0, _ => rfl
 | 1, _ => rfl
 | 2, _ => rfl, fun i => ⟨_, rfl⟩⟩
end Go.Proofs.Ytjibiphgbhlhkaa.Ev
end
section
namespace Go.Proofs.Ytjibiphgbhlhkaa.Ev
open Go Go.RowKit
def boolD (t : Td) : Bool := match t with | .sc (.bool b) => b | _ => false
def boolOk (t : Td) : Bool := match t with | .sc (.bool _) => true | _ => false
theorem boolOk_inv {t : Td} (h : boolOk t = true) : t = .sc (.bool (boolD t)) := by
 unfold boolOk at h
 split at h
 ·rfl
 ·cases h
structure Evt where
 k : Int
 s : Int
 i : Int
 w : Bool
 e : Int
 a : List Int
 ca : Nat
 v : List Vl
 cv : Nat
 m : List Vl
 cm : Nat
def evtE (x : Evt) (j : Nat) : Td := match j with
 | 0 => .sc (.int .i64 x.k)
 | 1 => .sc (.int .i64 x.s)
 | 2 => .sc (.int .i64 x.i)
 | 3 => .sc (.bool x.w)
 | 4 => .sc (.int .i64 x.e)
 | 5 => .fr 1 x.a.length x.ca (encL x.a)
 | 6 => .fr 3 x.v.length x.cv (encL x.v)
 | _ => .fr 3 x.m.length x.cm (encL x.m)
def evtD (c : Nat → Td) : Evt := ⟨intD (c 0), intD (c 1), intD (c 2), boolD (c 3), intD (c 4), listT Int (c 5), nilT (c 5), listT Vl (c 6), nilT (c 6), listT Vl (c 7), nilT (c 7)⟩
def evtOk (c : Nat → Td) : Bool := intOk (c 0) && intOk (c 1) && intOk (c 2) && boolOk (c 3) && intOk (c 4) && okT Int (c 5) && okT Vl (c 6) && okT Vl (c 7)
def evtGood (c : Nat → Td) : Prop := intOk (c 0) = true ∧ intOk (c 1) = true ∧ intOk (c 2) = true ∧ boolOk (c 3) = true ∧ intOk (c 4) = true ∧ goodT Int (c 5) ∧ goodT Vl (c 6) ∧ goodT Vl (c 7)
theorem evtOk_good {c : Nat → Td} (h : evtOk c = true) : evtGood c := by
 simp only [evtOk, Bool.and_eq_true] at h
 obtain ⟨⟨⟨⟨⟨⟨⟨h0, h1⟩, h2⟩, h3⟩, h4⟩, h5⟩, h6⟩, h7⟩ := h
 exact ⟨h0, h1, h2, h3, h4, okT_good h5, okT_good h6, okT_good h7⟩
theorem ev_law {c : Nat → Td} (h : evtGood c) (w : World) (F : Nat → Prop) (j : Nat) (y : Value) (hj : j < 8) (ht : TR w F (c j) y) : TR w F (evtE (evtD c) j) y := by
 obtain ⟨h0, h1, h2, h3, h4, h5, h6, h7⟩ := h
 match j, hj with
 | 0, _ => rw [intOk_inv h0] at ht; exact ht
 | 1, _ => rw [intOk_inv h1] at ht; exact ht
 | 2, _ => rw [intOk_inv h2] at ht; exact ht
 | 3, _ => rw [boolOk_inv h3] at ht; exact ht
 | 4, _ => rw [intOk_inv h4] at ht; exact ht
 | 5, _ => exact goodT_TR (α := Int) h5 ht
 | 6, _ => exact goodT_TR (α := Vl) h6 ht
 | 7, _ => exact goodT_TR (α := Vl) h7 ht
theorem ev_back (a : Evt) : evtD (evtE a) = a := by
 obtain ⟨k, s, i, w, e, a, ca, v, cv, m, cm⟩ := a
 show (⟨k, s, i, w, e, decL a.length (encL a), ca, decL v.length (encL v), cv, decL m.length (encL m), cm⟩ : Evt) = _
 rw [decL_encL, decL_encL, decL_encL]
theorem ev_mrg (a b : Evt) (w : World) (F : Nat → Prop) (j : Nat) (y : Value) (hj : j < 8) : (TR w F (mrgT true (evtE a j) (evtE b j)) y → TR w F (evtE a j) y) ∧ (TR w F (mrgT false (evtE a j) (evtE b j)) y → TR w F (evtE b j) y) := match j, hj with
 | 0, _ => ⟨fun h => h, fun h => h⟩
 | 1, _ => ⟨fun h => h, fun h => h⟩
 | 2, _ => ⟨fun h => h, fun h => h⟩
 | 3, _ => ⟨fun h => h, fun h => h⟩
 | 4, _ => ⟨fun h => h, fun h => h⟩
 | 5, _ => ⟨mrgL_true' (α := Int) (by decide), mrgL_false' (α := Int) (by decide)⟩
 | 6, _ => ⟨mrgL_true' (α := Vl) (by decide), mrgL_false' (α := Vl) (by decide)⟩
 | 7, _ => ⟨mrgL_true' (α := Vl) (by decide), mrgL_false' (α := Vl) (by decide)⟩
instance encE : Enc Evt where
 es := 8
 enc := evtE
 dec := evtD
 ok := evtOk
 dflt := ⟨0, 0, 0, false, 0, [], 1, [], 1, [], 1⟩
 good := evtGood
 okgood c h := evtOk_good h
 law c h w F j y hj ht := ev_law h w F j y hj ht
 back a := ev_back a
 mrg a b w F j y hj := ev_mrg a b w F j y hj
structure Ask where
 ev : Evt
 vs : List Vl
 cs : Nat
 fr : Int
 to : Int
 mu : Bool
 pl : Bool
def akE (x : Ask) (j : Nat) : Td := match j with
 | 0 => evtE x.ev 0
 | 1 => evtE x.ev 1
 | 2 => evtE x.ev 2
 | 3 => evtE x.ev 3
 | 4 => evtE x.ev 4
 | 5 => evtE x.ev 5
 | 6 => evtE x.ev 6
 | 7 => evtE x.ev 7
 | 8 => .fr 3 x.vs.length x.cs (encL x.vs)
 | 9 => .sc (.int .i64 x.fr)
 | 10 => .sc (.int .i64 x.to)
 | 11 => .sc (.bool x.mu)
 | _ => .sc (.bool x.pl)
def akD (c : Nat → Td) : Ask := ⟨evtD c, listT Vl (c 8), nilT (c 8), intD (c 9), intD (c 10), boolD (c 11), boolD (c 12)⟩
def akOk (c : Nat → Td) : Bool := evtOk c && okT Vl (c 8) && intOk (c 9) && intOk (c 10) && boolOk (c 11) && boolOk (c 12)
def akGood (c : Nat → Td) : Prop := evtGood c ∧ goodT Vl (c 8) ∧ intOk (c 9) = true ∧ intOk (c 10) = true ∧ boolOk (c 11) = true ∧ boolOk (c 12) = true
theorem akE_ev (x : Ask) {j : Nat} (h : j < 8) : akE x j = evtE x.ev j := match j, h with
 | 0, _ => rfl
 | 1, _ => rfl
 | 2, _ => rfl
 | 3, _ => rfl
 | 4, _ => rfl
 | 5, _ => rfl
 | 6, _ => rfl
 | 7, _ => rfl
instance encK : Enc Ask where
 es := 13
 enc := akE
 dec := akD
 ok := akOk
 dflt := ⟨⟨0, 0, 0, false, 0, [], 1, [], 1, [], 1⟩, [], 1, 0, 0, false, false⟩
 good := akGood
 okgood c h := by
  simp only [akOk, Bool.and_eq_true] at h
  obtain ⟨⟨⟨⟨⟨h0, h1⟩, h2⟩, h3⟩, h4⟩, h5⟩ := h
  exact ⟨evtOk_good h0, okT_good h1, h2, h3, h4, h5⟩
 law c h w F j y hj ht := by
  obtain ⟨h0, h1, h2, h3, h4, h5⟩ := h
  rcases Nat.lt_or_ge j 8 with h8 | h8
  ·rw [akE_ev _ h8]; exact ev_law h0 w F j y h8 ht
  ·match j, hj, h8 with
   | 8, _, _ => exact goodT_TR (α := Vl) h1 ht
   | 9, _, _ => rw [intOk_inv h2] at ht; exact ht
   | 10, _, _ => rw [intOk_inv h3] at ht; exact ht
   | 11, _, _ => rw [boolOk_inv h4] at ht; exact ht
   | 12, _, _ => rw [boolOk_inv h5] at ht; exact ht
 back a := by
  obtain ⟨ev, vs, cs, fr, to, mu, pl⟩ := a
  show (⟨evtD (evtE ev), decL vs.length (encL vs), cs, fr, to, mu, pl⟩ : Ask) = _
  rw [ev_back, decL_encL]
 mrg a b w F j y hj := by
  rcases Nat.lt_or_ge j 8 with h8 | h8
  ·rw [akE_ev _ h8, akE_ev _ h8]; exact ev_mrg a.ev b.ev w F j y h8
  ·match j, hj, h8 with
   | 8, _, _ => exact ⟨mrgL_true' (α := Vl) (by decide), mrgL_false' (α := Vl) (by decide)⟩
   | 9, _, _ => exact ⟨fun h => h, fun h => h⟩
   | 10, _, _ => exact ⟨fun h => h, fun h => h⟩
   | 11, _, _ => exact ⟨fun h => h, fun h => h⟩
   | 12, _, _ => exact ⟨fun h => h, fun h => h⟩
theorem okA_ev {x : Evt} (h1 : x.ca ≤ 1) (h2 : x.a.length ≤ 1000000) (h3 : x.cv ≤ 1) (h4 : x.v.length ≤ 1000000) (h5 : x.cm ≤ 1) (h6 : x.m.length ≤ 1000000) : okA Evt x = true := by
 show (intOk (.sc (.int .i64 x.k)) && intOk (.sc (.int .i64 x.s)) && intOk (.sc (.int .i64 x.i)) && boolOk (.sc (.bool x.w)) && intOk (.sc (.int .i64 x.e)) && okT Int (tdL x.a x.ca) && okT Vl (tdL x.v x.cv) && okT Vl (tdL x.m x.cm)) = true
 rw [okT_tdL (allI _) h2 h1, okT_tdL (allV _) h4 h3, okT_tdL (allV _) h6 h5]; rfl
theorem okA_ev_inv {x : Evt} (h : okA Evt x = true) : x.ca ≤ 1 ∧ x.a.length ≤ 1000000 ∧ x.cv ≤ 1 ∧ x.v.length ≤ 1000000 ∧ x.cm ≤ 1 ∧ x.m.length ≤ 1000000 := by
 have h : (intOk (.sc (.int .i64 x.k)) && intOk (.sc (.int .i64 x.s)) && intOk (.sc (.int .i64 x.i)) && boolOk (.sc (.bool x.w)) && intOk (.sc (.int .i64 x.e)) && okT Int (tdL x.a x.ca) && okT Vl (tdL x.v x.cv) && okT Vl (tdL x.m x.cm)) = true := h
 simp only [Bool.and_eq_true] at h
 have h1 := okT_len h.1.1.2
 have h2 := okT_len h.1.2
 have h3 := okT_len h.2
 rw [listT_tdL, nilT_tdL] at h1 h2 h3
 exact ⟨h1.2, h1.1, h2.2, h2.1, h3.2, h3.1⟩
theorem okA_ask {x : Ask} (h0 : okA Evt x.ev = true) (h1 : x.cs ≤ 1) (h2 : x.vs.length ≤ 1000000) : okA Ask x = true := by
 show (evtOk (evtE x.ev) && okT Vl (tdL x.vs x.cs) && intOk (.sc (.int .i64 x.fr)) && intOk (.sc (.int .i64 x.to)) && boolOk (.sc (.bool x.mu)) && boolOk (.sc (.bool x.pl))) = true
 have h0 : evtOk (evtE x.ev) = true := h0
 rw [h0, okT_tdL (allV _) h2 h1]; rfl
theorem okA_ask_inv {x : Ask} (h : okA Ask x = true) : okA Evt x.ev = true ∧ x.cs ≤ 1 ∧ x.vs.length ≤ 1000000 := by
 have h : (evtOk (evtE x.ev) && okT Vl (tdL x.vs x.cs) && intOk (.sc (.int .i64 x.fr)) && intOk (.sc (.int .i64 x.to)) && boolOk (.sc (.bool x.mu)) && boolOk (.sc (.bool x.pl))) = true := h
 simp only [Bool.and_eq_true] at h
 have h1 := okT_len h.1.1.1.1.2
 rw [listT_tdL, nilT_tdL] at h1
 exact ⟨h.1.1.1.1.1, h1.2, h1.1⟩
end Go.Proofs.Ytjibiphgbhlhkaa.Ev
end
