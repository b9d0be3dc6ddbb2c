/-
  Messages, subscriptions, sessions: data that lie in cells.
-/
import Derived.Test.YtachglcffimmeaaGreatQ16
import Derived.Test.YtachglcffimmeaaGreatQ14
import Derived.Test.YtachglcffimmeaaGreatQ15
set_option linter.unusedVariables false
set_option linter.unusedSimpArgs false
set_option maxRecDepth 1000000
namespace Go.Proofs.YtachglcffimmeaaGreat.Ev
open Go Go.Proofs Go.RowKit
class EncQ (α : Type) [Enc α] : Prop where
 es0 : Enc.es α ≠ 0
 mrg : ∀ (b : Bool) (x y : α) (j : Nat), mrgT b (Enc.enc x j) (Enc.enc y j) = cond b (Enc.enc x j) (Enc.enc y j)
 cong : ∀ (c : Nat → Td) (x : α), (∀ j, j < Enc.es α → c j = Enc.enc x j) → (Enc.dec c : α) = x ∧ Enc.ok α c = okA α x
theorem mrg_fr {α : Type} [Enc α] [EncQ α] (b : Bool) (l m : List α) (c d : Nat) : mrgT b (.fr (Enc.es α) l.length c (encL l)) (.fr (Enc.es α) m.length d (encL m)) = cond b (.fr (Enc.es α) l.length c (encL l)) (.fr (Enc.es α) m.length d (encL m)) := by
 have hs : sameEs (Enc.es α) l.length (Enc.es α) m.length = true := by simp [sameEs, Nat.beq_refl]
 have : mrgT b (.fr (Enc.es α) l.length c (encL l)) (.fr (Enc.es α) m.length d (encL m)) = .fr (Enc.es α) (cond b l.length m.length) (cond b c d) fun i j => mrgT b (encL l i j) (encL m i j) := by
  simp only [mrgT, hs, cond_true, beq_false (EncQ.es0 (α := α)), cond_false]
 refine Eq.trans this ?_
 cases b with
 | true =>
  simp only [cond_true]
  congr 1
  funext i j
  exact EncQ.mrg true _ _ j
 | false =>
  simp only [cond_false]
  congr 1
  funext i j
  exact EncQ.mrg false _ _ j
def bolD (t : Td) : Bool := match t with | .sc (.bool b) => b | _ => false
def bolOk (t : Td) : Bool := match t with | .sc (.bool _) => true | _ => false
theorem bI_ {t : Td} (h : bolOk t = true) : t = .sc (.bool (bolD t)) := by
 unfold bolOk at h
 split at h
 ·rfl
 ·cases h
def strD (t : Td) : ByteArray := match t with | .sc (.string b) => b | _ => ⟨#[]⟩
def strOk (t : Td) : Bool := match t with | .sc (.string _) => true | _ => false
theorem strOk_inv {t : Td} (h : strOk t = true) : t = .sc (.string (strD t)) := by
 unfold strOk at h
 split at h
 ·rfl
 ·cases h
def fltD (t : Td) : Nat := match t with | .sc (.float .f64 f) => f | _ => 0
def fltOk (t : Td) : Bool := match t with | .sc (.float .f64 _) => true | _ => false
theorem fI_ {t : Td} (h : fltOk t = true) : t = .sc (.float .f64 (fltD t)) := by
 unfold fltOk at h
 split at h
 ·rfl
 ·cases h
instance : EncQ Int where
 es0 := by decide
 mrg b x y j := by cases b <;> rfl
 cong c x h := by
  have h0 : c 0 = .sc (.int .i64 x) := h 0 (by show 0 < 1; omega)
  exact ⟨by show (match c 0 with | .sc (.int .i64 a) => a | _ => 0) = _; rw [h0], by show (match c 0 with | .sc (.int .i64 _) => true | _ => false) = _; rw [h0]; rfl⟩
instance : EncQ Vl where
 es0 := by decide
 mrg b x y j := match j with
  | 0 => by cases b <;> rfl
  | 1 => by cases b <;> rfl
  | j + 2 => by cases b <;> rfl
 cong c x h := by
  have h0 := h 0 (by show 0 < 3; omega)
  have h1 := h 1 (by show 1 < 3; omega)
  have h2 := h 2 (by show 2 < 3; omega)
  refine ⟨Eq.trans ?_ (Enc.back x), ?_⟩
  ·show vlD c = vlD (vlE x); unfold vlD; rw [h0, h1, h2]; rfl
  ·show vlOk c = vlOk (vlE x); unfold vlOk; rw [h0, h1, h2]; rfl
instance : EncQ U8 where
 es0 := by decide
 mrg b x y j := by cases b <;> rfl
 cong c x h := by
  have h0 : c 0 = .sc (.int .u8 x.v) := h 0 (by show 0 < 1; omega)
  exact ⟨by show u8D c = x; unfold u8D; rw [h0], by show u8Ok c = u8Ok (u8E x); unfold u8Ok; rw [h0]; rfl⟩
theorem oTa {α : Type} [Enc α] {l : List α} {c : Nat} (h : okT α (tdL l c) = true) : l.all (okA α) = true := by
 simp only [tdL, okT, Bool.or_eq_true, Bool.and_eq_true] at h
 rw [List.all_eq_true]
 intro x hx
 obtain ⟨i, hi, rfl⟩ := List.getElem_of_mem hx
 rcases h with h | h
 ·have h1 := okL_at h.1.1.2 hi
  have h2 : Enc.ok α (Enc.enc (l.getD i Enc.dflt)) = true := h1
  have h3 : l.getD i Enc.dflt = l[i] := by simp [List.getD, hi]
  rw [h3] at h2
  exact h2
 ·have := Nat.eq_of_beq_eq_true h.1
  omega
structure St where
 s : ByteArray
def stE (x : St) (j : Nat) : Td := match j with
 | _ => .sc (.string x.s)
def stD (c : Nat → Td) : St := ⟨strD (c 0)⟩
def stOk (c : Nat → Td) : Bool := strOk (c 0)
def stGood (c : Nat → Td) : Prop := strOk (c 0) = true
theorem stOk_good {c : Nat → Td} (h : stOk c = true) : stGood c := by
 exact h
theorem st_law {c : Nat → Td} (h : stGood c) (w : World) (F : Nat → Prop) (j : Nat) (y : Value) (hj : j < 1) (ht : TR w F (c j) y) : TR w F (stE (stD c) j) y := by
 have h0 := h
 match j, hj with
 | 0, _ => rw [strOk_inv h0] at ht; exact ht
theorem st_back (a : St) : stD (stE a) = a := by
 rfl
instance encSt : Enc St where
 es := 1
 enc := stE
 dec := stD
 ok := stOk
 dflt := ⟨⟨#[]⟩⟩
 good := stGood
 okgood c h := stOk_good h
 law c h w F j y hj ht := st_law h w F j y hj ht
 back a := st_back a
 mrg a b w F j y hj := match j, hj with
  | 0, _ => ⟨fun h => h, fun h => h⟩
instance encQSt : EncQ St where
 es0 := by decide
 mrg b x y j := match j with
  | _ => by cases b <;> rfl
 cong c x h := by
  have h0 := h 0 (by show 0 < 1; omega)
  refine ⟨Eq.trans ?_ (st_back x), ?_⟩
  ·show stD c = stD (stE x)
   unfold stD
   rw [h0]
   rfl
  ·show stOk c = stOk (stE x)
   unfold stOk
   rw [h0]
   rfl
structure Ms where
 k : Int
 id : Int
 er : Int
 n : Int
 sq : Int
 lo : Bool
 ev : Int
 bd : Vl
 ps : List St
 cps : Nat
 vs : List Vl
 cvs : Nat
def msE (x : Ms) (j : Nat) : Td := match j with
 | 0 => .sc (.int .i64 x.k)
 | 1 => .sc (.int .i64 x.id)
 | 2 => .sc (.int .i64 x.er)
 | 3 => .sc (.int .i64 x.n)
 | 4 => .sc (.int .i64 x.sq)
 | 5 => .sc (.bool x.lo)
 | 6 => .sc (.int .i64 x.ev)
 | 7 => .sc (.int .i64 x.bd.k)
 | 8 => .sc (.int .i64 x.bd.i)
 | 9 => .sc (.float .f64 x.bd.f)
 | 10 => .fr (Enc.es St) x.ps.length x.cps (encL x.ps)
 | _ => .fr (Enc.es Vl) x.vs.length x.cvs (encL x.vs)
def msD (c : Nat → Td) : Ms := ⟨intD (c 0), intD (c 1), intD (c 2), intD (c 3), intD (c 4), bolD (c 5), intD (c 6), ⟨intD (c 7), intD (c 8), fltD (c 9)⟩, listT St (c 10), nilT (c 10), listT Vl (c 11), nilT (c 11)⟩
def msOk (c : Nat → Td) : Bool := intOk (c 0) && intOk (c 1) && intOk (c 2) && intOk (c 3) && intOk (c 4) && bolOk (c 5) && intOk (c 6) && intOk (c 7) && intOk (c 8) && fltOk (c 9) && okT St (c 10) && okT Vl (c 11)
def msGood (c : Nat → Td) : Prop := intOk (c 0) = true ∧ intOk (c 1) = true ∧ intOk (c 2) = true ∧ intOk (c 3) = true ∧ intOk (c 4) = true ∧ bolOk (c 5) = true ∧ intOk (c 6) = true ∧ intOk (c 7) = true ∧ intOk (c 8) = true ∧ fltOk (c 9) = true ∧ goodT St (c 10) ∧ goodT Vl (c 11)
theorem msOk_good {c : Nat → Td} (h : msOk c = true) : msGood c := by
 simp only [msOk, Bool.and_eq_true] at h
 obtain ⟨⟨⟨⟨⟨⟨⟨⟨⟨⟨⟨h0, h1⟩, h2⟩, h3⟩, h4⟩, h5⟩, h6⟩, h7⟩, h8⟩, h9⟩, h10⟩, h11⟩ := h
 exact ⟨h0, h1, h2, h3, h4, h5, h6, h7, h8, h9, okT_good h10, okT_good h11⟩
theorem ms_law {c : Nat → Td} (h : msGood c) (w : World) (F : Nat → Prop) (j : Nat) (y : Value) (hj : j < 12) (ht : TR w F (c j) y) : TR w F (msE (msD c) j) y := by
 obtain ⟨h0, h1, h2, h3, h4, h5, h6, h7, h8, h9, h10, h11⟩ := h
 match j, hj with
 | 0, _ => rw [iI_ h0] at ht; exact ht
 | 1, _ => rw [iI_ h1] at ht; exact ht
 | 2, _ => rw [iI_ h2] at ht; exact ht
 | 3, _ => rw [iI_ h3] at ht; exact ht
 | 4, _ => rw [iI_ h4] at ht; exact ht
 | 5, _ => rw [bI_ h5] at ht; exact ht
 | 6, _ => rw [iI_ h6] at ht; exact ht
 | 7, _ => rw [iI_ h7] at ht; exact ht
 | 8, _ => rw [iI_ h8] at ht; exact ht
 | 9, _ => rw [fI_ h9] at ht; exact ht
 | 10, _ => exact goodT_TR (α := St) h10 ht
 | 11, _ => exact goodT_TR (α := Vl) h11 ht
theorem ms_back (a : Ms) : msD (msE a) = a := by
 obtain ⟨k, id, er, n, sq, lo, ev, bd, ps, cps, vs, cvs⟩ := a
 show (⟨k, id, er, n, sq, lo, ev, bd, decL ps.length (encL ps), cps, decL vs.length (encL vs), cvs⟩ : Ms) = _
 rw [decL_encL, decL_encL]
instance encMs : Enc Ms where
 es := 12
 enc := msE
 dec := msD
 ok := msOk
 dflt := ⟨0, 0, 0, 0, 0, false, 0, ⟨0, 0, 0⟩, [], 1, [], 1⟩
 good := msGood
 okgood c h := msOk_good h
 law c h w F j y hj ht := ms_law h w F j y hj ht
 back a := ms_back a
 mrg a b w F j y hj := match j, hj with
  | 0, _ => ⟨fun h => h, fun h => h⟩
  | 1, _ => ⟨fun h => h, fun h => h⟩
  | 2, _ => ⟨fun h => h, fun h => h⟩
  | 3, _ => ⟨fun h => h, fun h => h⟩
  | 4, _ => ⟨fun h => h, fun h => h⟩
  | 5, _ => ⟨fun h => h, fun h => h⟩
  | 6, _ => ⟨fun h => h, fun h => h⟩
  | 7, _ => ⟨fun h => h, fun h => h⟩
  | 8, _ => ⟨fun h => h, fun h => h⟩
  | 9, _ => ⟨fun h => h, fun h => h⟩
  | 10, _ => ⟨mrgL_true' (α := St) (by decide), mrgL_false' (α := St) (by decide)⟩
  | 11, _ => ⟨mrgL_true' (α := Vl) (by decide), mrgL_false' (α := Vl) (by decide)⟩
instance encQMs : EncQ Ms where
 es0 := by decide
 mrg b x y j := match j with
  | 0 => by cases b <;> rfl
  | 1 => by cases b <;> rfl
  | 2 => by cases b <;> rfl
  | 3 => by cases b <;> rfl
  | 4 => by cases b <;> rfl
  | 5 => by cases b <;> rfl
  | 6 => by cases b <;> rfl
  | 7 => by cases b <;> rfl
  | 8 => by cases b <;> rfl
  | 9 => by cases b <;> rfl
  | 10 => mrg_fr b x.ps y.ps x.cps y.cps
  | j + 11 => mrg_fr b x.vs y.vs x.cvs y.cvs
 cong c x h := by
  have h0 := h 0 (by show 0 < 12; omega)
  have h1 := h 1 (by show 1 < 12; omega)
  have h2 := h 2 (by show 2 < 12; omega)
  have h3 := h 3 (by show 3 < 12; omega)
  have h4 := h 4 (by show 4 < 12; omega)
  have h5 := h 5 (by show 5 < 12; omega)
  have h6 := h 6 (by show 6 < 12; omega)
  have h7 := h 7 (by show 7 < 12; omega)
  have h8 := h 8 (by show 8 < 12; omega)
  have h9 := h 9 (by show 9 < 12; omega)
  have h10 := h 10 (by show 10 < 12; omega)
  have h11 := h 11 (by show 11 < 12; omega)
  refine ⟨Eq.trans ?_ (ms_back x), ?_⟩
  ·show msD c = msD (msE x)
   unfold msD
   rw [h0, h1, h2, h3, h4, h5, h6, h7, h8, h9, h10, h11]
   rfl
  ·show msOk c = msOk (msE x)
   unfold msOk
   rw [h0, h1, h2, h3, h4, h5, h6, h7, h8, h9, h10, h11]
   rfl
theorem okA_ms {x : Ms} (h0 : x.ps.all (okA St) = true) (l0 : x.ps.length ≤ 1000000) (c0 : x.cps ≤ 1) (h1 : x.vs.all (okA Vl) = true) (l1 : x.vs.length ≤ 1000000) (c1 : x.cvs ≤ 1) : okA Ms x = true := by
 show (true && true && true && true && true && true && true && true && true && true && okT St (tdL x.ps x.cps) && okT Vl (tdL x.vs x.cvs)) = true
 rw [okT_tdL h0 l0 c0, okT_tdL h1 l1 c1]; rfl
theorem okA_ms_inv {x : Ms} (h : okA Ms x = true) : x.ps.all (okA St) = true ∧ x.ps.length ≤ 1000000 ∧ x.cps ≤ 1 ∧ x.vs.all (okA Vl) = true ∧ x.vs.length ≤ 1000000 ∧ x.cvs ≤ 1 := by
 have h : (true && true && true && true && true && true && true && true && true && true && okT St (tdL x.ps x.cps) && okT Vl (tdL x.vs x.cvs)) = true := h
 simp only [Bool.and_eq_true] at h
 obtain ⟨⟨⟨⟨⟨⟨⟨⟨⟨⟨⟨h0, h1⟩, h2⟩, h3⟩, h4⟩, h5⟩, h6⟩, h7⟩, h8⟩, h9⟩, h10⟩, h11⟩ := h
 have k0 := okT_len h10
 have m0 := oTa h10
 rw [lT_, nilT_tdL] at k0
 have k1 := okT_len h11
 have m1 := oTa h11
 rw [lT_, nilT_tdL] at k1
 exact ⟨m0, k0.1, k0.2, m1, k1.1, k1.2⟩
structure Im where
 sq : Int
 v : Vl
 lo : Bool
def imE (x : Im) (j : Nat) : Td := match j with
 | 0 => .sc (.int .i64 x.sq)
 | 1 => .sc (.int .i64 x.v.k)
 | 2 => .sc (.int .i64 x.v.i)
 | 3 => .sc (.float .f64 x.v.f)
 | _ => .sc (.bool x.lo)
def imD (c : Nat → Td) : Im := ⟨intD (c 0), ⟨intD (c 1), intD (c 2), fltD (c 3)⟩, bolD (c 4)⟩
def imOk (c : Nat → Td) : Bool := intOk (c 0) && intOk (c 1) && intOk (c 2) && fltOk (c 3) && bolOk (c 4)
def imGood (c : Nat → Td) : Prop := intOk (c 0) = true ∧ intOk (c 1) = true ∧ intOk (c 2) = true ∧ fltOk (c 3) = true ∧ bolOk (c 4) = true
theorem imOk_good {c : Nat → Td} (h : imOk c = true) : imGood c := by
 simp only [imOk, Bool.and_eq_true] at h
 obtain ⟨⟨⟨⟨h0, h1⟩, h2⟩, h3⟩, h4⟩ := h
 exact ⟨h0, h1, h2, h3, h4⟩
theorem im_law {c : Nat → Td} (h : imGood c) (w : World) (F : Nat → Prop) (j : Nat) (y : Value) (hj : j < 5) (ht : TR w F (c j) y) : TR w F (imE (imD c) j) y := by
 obtain ⟨h0, h1, h2, h3, h4⟩ := h
 match j, hj with
 | 0, _ => rw [iI_ h0] at ht; exact ht
 | 1, _ => rw [iI_ h1] at ht; exact ht
 | 2, _ => rw [iI_ h2] at ht; exact ht
 | 3, _ => rw [fI_ h3] at ht; exact ht
 | 4, _ => rw [bI_ h4] at ht; exact ht
theorem im_back (a : Im) : imD (imE a) = a := by
 rfl
instance encIm : Enc Im where
 es := 5
 enc := imE
 dec := imD
 ok := imOk
 dflt := ⟨0, ⟨0, 0, 0⟩, false⟩
 good := imGood
 okgood c h := imOk_good h
 law c h w F j y hj ht := im_law h w F j y hj ht
 back a := im_back a
 mrg a b w F j y hj := match j, hj with
  | 0, _ => ⟨fun h => h, fun h => h⟩
  | 1, _ => ⟨fun h => h, fun h => h⟩
  | 2, _ => ⟨fun h => h, fun h => h⟩
  | 3, _ => ⟨fun h => h, fun h => h⟩
  | 4, _ => ⟨fun h => h, fun h => h⟩
instance encQIm : EncQ Im where
 es0 := by decide
 mrg b x y j := match j with
  | 0 => by cases b <;> rfl
  | 1 => by cases b <;> rfl
  | 2 => by cases b <;> rfl
  | 3 => by cases b <;> rfl
  | j + 4 => by cases b <;> rfl
 cong c x h := by
  have h0 := h 0 (by show 0 < 5; omega)
  have h1 := h 1 (by show 1 < 5; omega)
  have h2 := h 2 (by show 2 < 5; omega)
  have h3 := h 3 (by show 3 < 5; omega)
  have h4 := h 4 (by show 4 < 5; omega)
  refine ⟨Eq.trans ?_ (im_back x), ?_⟩
  ·show imD c = imD (imE x)
   unfold imD
   rw [h0, h1, h2, h3, h4]
   rfl
  ·show imOk c = imOk (imE x)
   unfold imOk
   rw [h0, h1, h2, h3, h4]
   rfl
structure Wt where
 nu : Int
 ad : Int
 ev : Int
 du : Int
 bd : Vl
 mo : Int
 ha : Bool
 lo : Bool
 la : Vl
 sq : Int
 qu : List Im
 cqu : Nat
def wtE (x : Wt) (j : Nat) : Td := match j with
 | 0 => .sc (.int .i64 x.nu)
 | 1 => .sc (.int .i64 x.ad)
 | 2 => .sc (.int .i64 x.ev)
 | 3 => .sc (.int .i64 x.du)
 | 4 => .sc (.int .i64 x.bd.k)
 | 5 => .sc (.int .i64 x.bd.i)
 | 6 => .sc (.float .f64 x.bd.f)
 | 7 => .sc (.int .i64 x.mo)
 | 8 => .sc (.bool x.ha)
 | 9 => .sc (.bool x.lo)
 | 10 => .sc (.int .i64 x.la.k)
 | 11 => .sc (.int .i64 x.la.i)
 | 12 => .sc (.float .f64 x.la.f)
 | 13 => .sc (.int .i64 x.sq)
 | _ => .fr (Enc.es Im) x.qu.length x.cqu (encL x.qu)
def wtD (c : Nat → Td) : Wt := ⟨intD (c 0), intD (c 1), intD (c 2), intD (c 3), ⟨intD (c 4), intD (c 5), fltD (c 6)⟩, intD (c 7), bolD (c 8), bolD (c 9), ⟨intD (c 10), intD (c 11), fltD (c 12)⟩, intD (c 13), listT Im (c 14), nilT (c 14)⟩
def wtOk (c : Nat → Td) : Bool := intOk (c 0) && intOk (c 1) && intOk (c 2) && intOk (c 3) && intOk (c 4) && intOk (c 5) && fltOk (c 6) && intOk (c 7) && bolOk (c 8) && bolOk (c 9) && intOk (c 10) && intOk (c 11) && fltOk (c 12) && intOk (c 13) && okT Im (c 14)
def wtGood (c : Nat → Td) : Prop := intOk (c 0) = true ∧ intOk (c 1) = true ∧ intOk (c 2) = true ∧ intOk (c 3) = true ∧ intOk (c 4) = true ∧ intOk (c 5) = true ∧ fltOk (c 6) = true ∧ intOk (c 7) = true ∧ bolOk (c 8) = true ∧ bolOk (c 9) = true ∧ intOk (c 10) = true ∧ intOk (c 11) = true ∧ fltOk (c 12) = true ∧ intOk (c 13) = true ∧ goodT Im (c 14)
theorem wtOk_good {c : Nat → Td} (h : wtOk c = true) : wtGood c := by
 simp only [wtOk, Bool.and_eq_true] at h
 obtain ⟨⟨⟨⟨⟨⟨⟨⟨⟨⟨⟨⟨⟨⟨h0, h1⟩, h2⟩, h3⟩, h4⟩, h5⟩, h6⟩, h7⟩, h8⟩, h9⟩, h10⟩, h11⟩, h12⟩, h13⟩, h14⟩ := h
 exact ⟨h0, h1, h2, h3, h4, h5, h6, h7, h8, h9, h10, h11, h12, h13, okT_good h14⟩
theorem wt_law {c : Nat → Td} (h : wtGood c) (w : World) (F : Nat → Prop) (j : Nat) (y : Value) (hj : j < 15) (ht : TR w F (c j) y) : TR w F (wtE (wtD c) j) y := by
 obtain ⟨h0, h1, h2, h3, h4, h5, h6, h7, h8, h9, h10, h11, h12, h13, h14⟩ := h
 match j, hj with
 | 0, _ => rw [iI_ h0] at ht; exact ht
 | 1, _ => rw [iI_ h1] at ht; exact ht
 | 2, _ => rw [iI_ h2] at ht; exact ht
 | 3, _ => rw [iI_ h3] at ht; exact ht
 | 4, _ => rw [iI_ h4] at ht; exact ht
 | 5, _ => rw [iI_ h5] at ht; exact ht
 | 6, _ => rw [fI_ h6] at ht; exact ht
 | 7, _ => rw [iI_ h7] at ht; exact ht
 | 8, _ => rw [bI_ h8] at ht; exact ht
 | 9, _ => rw [bI_ h9] at ht; exact ht
 | 10, _ => rw [iI_ h10] at ht; exact ht
 | 11, _ => rw [iI_ h11] at ht; exact ht
 | 12, _ => rw [fI_ h12] at ht; exact ht
 | 13, _ => rw [iI_ h13] at ht; exact ht
 | 14, _ => exact goodT_TR (α := Im) h14 ht
theorem wt_back (a : Wt) : wtD (wtE a) = a := by
 obtain ⟨nu, ad, ev, du, bd, mo, ha, lo, la, sq, qu, cqu⟩ := a
 show (⟨nu, ad, ev, du, bd, mo, ha, lo, la, sq, decL qu.length (encL qu), cqu⟩ : Wt) = _
 rw [decL_encL]
instance encWt : Enc Wt where
 es := 15
 enc := wtE
 dec := wtD
 ok := wtOk
 dflt := ⟨0, 0, 0, 0, ⟨0, 0, 0⟩, 0, false, false, ⟨0, 0, 0⟩, 0, [], 1⟩
 good := wtGood
 okgood c h := wtOk_good h
 law c h w F j y hj ht := wt_law h w F j y hj ht
 back a := wt_back a
 mrg a b w F j y hj := match j, hj with
  | 0, _ => ⟨fun h => h, fun h => h⟩
  | 1, _ => ⟨fun h => h, fun h => h⟩
  | 2, _ => ⟨fun h => h, fun h => h⟩
  | 3, _ => ⟨fun h => h, fun h => h⟩
  | 4, _ => ⟨fun h => h, fun h => h⟩
  | 5, _ => ⟨fun h => h, fun h => h⟩
  | 6, _ => ⟨fun h => h, fun h => h⟩
  | 7, _ => ⟨fun h => h, fun h => h⟩
  | 8, _ => ⟨fun h => h, fun h => h⟩
  | 9, _ => ⟨fun h => h, fun h => h⟩
  | 10, _ => ⟨fun h => h, fun h => h⟩
  | 11, _ => ⟨fun h => h, fun h => h⟩
  | 12, _ => ⟨fun h => h, fun h => h⟩
  | 13, _ => ⟨fun h => h, fun h => h⟩
  | 14, _ => ⟨mrgL_true' (α := Im) (by decide), mrgL_false' (α := Im) (by decide)⟩
instance encQWt : EncQ Wt where
 es0 := by decide
 mrg b x y j := match j with
  | 0 => by cases b <;> rfl
  | 1 => by cases b <;> rfl
  | 2 => by cases b <;> rfl
  | 3 => by cases b <;> rfl
  | 4 => by cases b <;> rfl
  | 5 => by cases b <;> rfl
  | 6 => by cases b <;> rfl
  | 7 => by cases b <;> rfl
  | 8 => by cases b <;> rfl
  | 9 => by cases b <;> rfl
  | 10 => by cases b <;> rfl
  | 11 => by cases b <;> rfl
  | 12 => by cases b <;> rfl
  | 13 => by cases b <;> rfl
  | j + 14 => mrg_fr b x.qu y.qu x.cqu y.cqu
 cong c x h := by
  have h0 := h 0 (by show 0 < 15; omega)
  have h1 := h 1 (by show 1 < 15; omega)
  have h2 := h 2 (by show 2 < 15; omega)
  have h3 := h 3 (by show 3 < 15; omega)
  have h4 := h 4 (by show 4 < 15; omega)
  have h5 := h 5 (by show 5 < 15; omega)
  have h6 := h 6 (by show 6 < 15; omega)
  have h7 := h 7 (by show 7 < 15; omega)
  have h8 := h 8 (by show 8 < 15; omega)
  have h9 := h 9 (by show 9 < 15; omega)
  have h10 := h 10 (by show 10 < 15; omega)
  have h11 := h 11 (by show 11 < 15; omega)
  have h12 := h 12 (by show 12 < 15; omega)
  have h13 := h 13 (by show 13 < 15; omega)
  have h14 := h 14 (by show 14 < 15; omega)
  refine ⟨Eq.trans ?_ (wt_back x), ?_⟩
  ·show wtD c = wtD (wtE x)
   unfold wtD
   rw [h0, h1, h2, h3, h4, h5, h6, h7, h8, h9, h10, h11, h12, h13, h14]
   rfl
  ·show wtOk c = wtOk (wtE x)
   unfold wtOk
   rw [h0, h1, h2, h3, h4, h5, h6, h7, h8, h9, h10, h11, h12, h13, h14]
   rfl
theorem okA_wt {x : Wt} (h0 : x.qu.all (okA Im) = true) (l0 : x.qu.length ≤ 1000000) (c0 : x.cqu ≤ 1) : okA Wt x = true := by
 show (true && true && true && true && true && true && true && true && true && true && true && true && true && true && okT Im (tdL x.qu x.cqu)) = true
 rw [okT_tdL h0 l0 c0]; rfl
theorem okA_wt_inv {x : Wt} (h : okA Wt x = true) : x.qu.all (okA Im) = true ∧ x.qu.length ≤ 1000000 ∧ x.cqu ≤ 1 := by
 have h : (true && true && true && true && true && true && true && true && true && true && true && true && true && true && okT Im (tdL x.qu x.cqu)) = true := h
 simp only [Bool.and_eq_true] at h
 obtain ⟨⟨⟨⟨⟨⟨⟨⟨⟨⟨⟨⟨⟨⟨h0, h1⟩, h2⟩, h3⟩, h4⟩, h5⟩, h6⟩, h7⟩, h8⟩, h9⟩, h10⟩, h11⟩, h12⟩, h13⟩, h14⟩ := h
 have k0 := okT_len h14
 have m0 := oTa h14
 rw [lT_, nilT_tdL] at k0
 exact ⟨m0, k0.1, k0.2⟩
structure Ss where
 on : Bool
 se : Int
 fb : List U8
 cfb : Nat
 ba : Bool
 ins : List Ms
 cins : Nat
 out : List Ms
 cout : Nat
 sub : List Wt
 csub : Nat
 num : Int
def ssE (x : Ss) (j : Nat) : Td := match j with
 | 0 => .sc (.bool x.on)
 | 1 => .sc (.int .i64 x.se)
 | 2 => .fr (Enc.es U8) x.fb.length x.cfb (encL x.fb)
 | 3 => .sc (.bool x.ba)
 | 4 => .fr (Enc.es Ms) x.ins.length x.cins (encL x.ins)
 | 5 => .fr (Enc.es Ms) x.out.length x.cout (encL x.out)
 | 6 => .fr (Enc.es Wt) x.sub.length x.csub (encL x.sub)
 | _ => .sc (.int .i64 x.num)
def ssD (c : Nat → Td) : Ss := ⟨bolD (c 0), intD (c 1), listT U8 (c 2), nilT (c 2), bolD (c 3), listT Ms (c 4), nilT (c 4), listT Ms (c 5), nilT (c 5), listT Wt (c 6), nilT (c 6), intD (c 7)⟩
def ssOk (c : Nat → Td) : Bool := bolOk (c 0) && intOk (c 1) && okT U8 (c 2) && bolOk (c 3) && okT Ms (c 4) && okT Ms (c 5) && okT Wt (c 6) && intOk (c 7)
def ssGood (c : Nat → Td) : Prop := bolOk (c 0) = true ∧ intOk (c 1) = true ∧ goodT U8 (c 2) ∧ bolOk (c 3) = true ∧ goodT Ms (c 4) ∧ goodT Ms (c 5) ∧ goodT Wt (c 6) ∧ intOk (c 7) = true
theorem ssOk_good {c : Nat → Td} (h : ssOk c = true) : ssGood c := by
 simp only [ssOk, Bool.and_eq_true] at h
 obtain ⟨⟨⟨⟨⟨⟨⟨h0, h1⟩, h2⟩, h3⟩, h4⟩, h5⟩, h6⟩, h7⟩ := h
 exact ⟨h0, h1, okT_good h2, h3, okT_good h4, okT_good h5, okT_good h6, h7⟩
theorem ss_law {c : Nat → Td} (h : ssGood c) (w : World) (F : Nat → Prop) (j : Nat) (y : Value) (hj : j < 8) (ht : TR w F (c j) y) : TR w F (ssE (ssD c) j) y := by
 obtain ⟨h0, h1, h2, h3, h4, h5, h6, h7⟩ := h
 match j, hj with
 | 0, _ => rw [bI_ h0] at ht; exact ht
 | 1, _ => rw [iI_ h1] at ht; exact ht
 | 2, _ => exact goodT_TR (α := U8) h2 ht
 | 3, _ => rw [bI_ h3] at ht; exact ht
 | 4, _ => exact goodT_TR (α := Ms) h4 ht
 | 5, _ => exact goodT_TR (α := Ms) h5 ht
 | 6, _ => exact goodT_TR (α := Wt) h6 ht
 | 7, _ => rw [iI_ h7] at ht; exact ht
theorem ss_back (a : Ss) : ssD (ssE a) = a := by
 obtain ⟨on, se, fb, cfb, ba, ins, cins, out, cout, sub, csub, num⟩ := a
 show (⟨on, se, decL fb.length (encL fb), cfb, ba, decL ins.length (encL ins), cins, decL out.length (encL out), cout, decL sub.length (encL sub), csub, num⟩ : Ss) = _
 rw [decL_encL, decL_encL, decL_encL, decL_encL]
instance encSs : Enc Ss where
 es := 8
 enc := ssE
 dec := ssD
 ok := ssOk
 dflt := ⟨false, 0, [], 1, false, [], 1, [], 1, [], 1, 0⟩
 good := ssGood
 okgood c h := ssOk_good h
 law c h w F j y hj ht := ss_law h w F j y hj ht
 back a := ss_back a
 mrg a b w F j y hj := match j, hj with
  | 0, _ => ⟨fun h => h, fun h => h⟩
  | 1, _ => ⟨fun h => h, fun h => h⟩
  | 2, _ => ⟨mrgL_true' (α := U8) (by decide), mrgL_false' (α := U8) (by decide)⟩
  | 3, _ => ⟨fun h => h, fun h => h⟩
  | 4, _ => ⟨mrgL_true' (α := Ms) (by decide), mrgL_false' (α := Ms) (by decide)⟩
  | 5, _ => ⟨mrgL_true' (α := Ms) (by decide), mrgL_false' (α := Ms) (by decide)⟩
  | 6, _ => ⟨mrgL_true' (α := Wt) (by decide), mrgL_false' (α := Wt) (by decide)⟩
  | 7, _ => ⟨fun h => h, fun h => h⟩
instance encQSs : EncQ Ss where
 es0 := by decide
 mrg b x y j := match j with
  | 0 => by cases b <;> rfl
  | 1 => by cases b <;> rfl
  | 2 => mrg_fr b x.fb y.fb x.cfb y.cfb
  | 3 => by cases b <;> rfl
  | 4 => mrg_fr b x.ins y.ins x.cins y.cins
  | 5 => mrg_fr b x.out y.out x.cout y.cout
  | 6 => mrg_fr b x.sub y.sub x.csub y.csub
  | j + 7 => by cases b <;> rfl
 cong c x h := by
  have h0 := h 0 (by show 0 < 8; omega)
  have h1 := h 1 (by show 1 < 8; omega)
  have h2 := h 2 (by show 2 < 8; omega)
  have h3 := h 3 (by show 3 < 8; omega)
  have h4 := h 4 (by show 4 < 8; omega)
  have h5 := h 5 (by show 5 < 8; omega)
  have h6 := h 6 (by show 6 < 8; omega)
  have h7 := h 7 (by show 7 < 8; omega)
  refine ⟨Eq.trans ?_ (ss_back x), ?_⟩
  ·show ssD c = ssD (ssE x)
   unfold ssD
   rw [h0, h1, h2, h3, h4, h5, h6, h7]
   rfl
  ·show ssOk c = ssOk (ssE x)
   unfold ssOk
   rw [h0, h1, h2, h3, h4, h5, h6, h7]
   rfl
theorem okA_ss {x : Ss} (h0 : x.fb.all (okA U8) = true) (l0 : x.fb.length ≤ 1000000) (c0 : x.cfb ≤ 1) (h1 : x.ins.all (okA Ms) = true) (l1 : x.ins.length ≤ 1000000) (c1 : x.cins ≤ 1) (h2 : x.out.all (okA Ms) = true) (l2 : x.out.length ≤ 1000000) (c2 : x.cout ≤ 1) (h3 : x.sub.all (okA Wt) = true) (l3 : x.sub.length ≤ 1000000) (c3 : x.csub ≤ 1) : okA Ss x = true := by
 show (true && true && okT U8 (tdL x.fb x.cfb) && true && okT Ms (tdL x.ins x.cins) && okT Ms (tdL x.out x.cout) && okT Wt (tdL x.sub x.csub) && true) = true
 rw [okT_tdL h0 l0 c0, okT_tdL h1 l1 c1, okT_tdL h2 l2 c2, okT_tdL h3 l3 c3]; rfl
theorem okA_ss_inv {x : Ss} (h : okA Ss x = true) : x.fb.all (okA U8) = true ∧ x.fb.length ≤ 1000000 ∧ x.cfb ≤ 1 ∧ x.ins.all (okA Ms) = true ∧ x.ins.length ≤ 1000000 ∧ x.cins ≤ 1 ∧ x.out.all (okA Ms) = true ∧ x.out.length ≤ 1000000 ∧ x.cout ≤ 1 ∧ x.sub.all (okA Wt) = true ∧ x.sub.length ≤ 1000000 ∧ x.csub ≤ 1 := by
 have h : (true && true && okT U8 (tdL x.fb x.cfb) && true && okT Ms (tdL x.ins x.cins) && okT Ms (tdL x.out x.cout) && okT Wt (tdL x.sub x.csub) && true) = true := h
 simp only [Bool.and_eq_true] at h
 obtain ⟨⟨⟨⟨⟨⟨⟨h0, h1⟩, h2⟩, h3⟩, h4⟩, h5⟩, h6⟩, h7⟩ := h
 have k0 := okT_len h2
 have m0 := oTa h2
 rw [lT_, nilT_tdL] at k0
 have k1 := okT_len h4
 have m1 := oTa h4
 rw [lT_, nilT_tdL] at k1
 have k2 := okT_len h5
 have m2 := oTa h5
 rw [lT_, nilT_tdL] at k2
 have k3 := okT_len h6
 have m3 := oTa h6
 rw [lT_, nilT_tdL] at k3
 exact ⟨m0, k0.1, k0.2, m1, k1.1, k1.2, m2, k2.1, k2.2, m3, k3.1, k3.2⟩
theorem bits_okS {C : Told} (hC : ToldS Tryz.prog C) : ToldS Tryz.prog (C.also 82 bitsSpec) := by
 refine Told.also_ok hC ?_
 intro args v hv
 unfold bitsSpec at hv
 split at hv
 ·rename_i a
  cases hv
  refine ⟨rfl, rfl, fun w args' ha => ?_⟩
  refine sym_is (fuel := 100) (n := 20) follows (noTold_ok _) ?_ w args' ha
  rw [vc_bits1]; exact bits_main a
 ·cases hv
theorem same_okS {C : Told} (hC : ToldS Tryz.prog C) : ToldS Tryz.prog (C.also 59 sameSpec) := by
 refine Told.also_ok hC ?_
 intro args v hv
 unfold sameSpec at hv
 split at hv
 ·rename_i a b
  cases hv
  refine ⟨rfl, rfl, fun w args' ha => ?_⟩
  refine sym_is (fuel := 100) (n := 20) follows toldBits_ok ?_ w args' ha
  rw [vc_same1, same_eq]; rfl
 ·cases hv
theorem vc_rbits1 (a : Nat) (K : AE → ASt → Prop) : funK Tryz.prog noTold 100 20 102 [.float .f64 a] st0 K =
  br (Ieee.double.order a a != some .eq) (K (.returned (.int .u64 (Int.ofNat 9221120237041090561))) st0) (need (!nanB .f64 a) (K (.returned (.int .u64 (Int.ofNat a))) st0)) := by kernel_rfl
theorem rbits_okS {C : Told} (hC : ToldS Tryz.prog C) : ToldS Tryz.prog (C.also 102 bitsSpec) := by
 refine Told.also_ok hC ?_
 intro args v hv
 unfold bitsSpec at hv
 split at hv
 ·rename_i a
  cases hv
  refine ⟨rfl, rfl, fun w args' ha => ?_⟩
  refine sym_is (fuel := 100) (n := 20) follows (noTold_ok _) ?_ w args' ha
  rw [vc_rbits1]; exact bits_main a
 ·cases hv
theorem cloneV_told : ToldW Tryz.prog 90 (okC 3) (ansC 3) := clone_told follows (fun n c f β K => by kernel_rfl) (fun es' f β K => by kernel_rfl)
theorem cloneS_told : ToldW Tryz.prog 89 (okC 1) (ansC 1) := clone_told follows (fun n c f β K => by kernel_rfl) (fun es' f β K => by kernel_rfl)
theorem cloneW_told : ToldW Tryz.prog 49 (okC 15) (ansC 15) := clone_told follows (fun n c f β K => by kernel_rfl) (fun es' f β K => by kernel_rfl)
theorem cloneI_told : ToldW Tryz.prog 50 (okC 5) (ansC 5) := clone_told follows (fun n c f β K => by kernel_rfl) (fun es' f β K => by kernel_rfl)
def toldK1 : Told := toldQ.tree 38 okFd ansFd
theorem toldK1_ok : ToldS Tryz.prog toldK1 := Told.tree_ok toldQ_ok fd_told
def toldK2 : Told := ((toldK1.also 82 bitsSpec).also 59 sameSpec).also 102 bitsSpec
theorem toldK2_ok : ToldS Tryz.prog toldK2 := rbits_okS (same_okS (bits_okS toldK1_ok))
def toldK3 : Told := toldK2.tree 36 (ok2 Vl Vl fun _ _ _ _ => true) (ans2 Vl Vl fun l _ m _ => bAns (sameVs l m))
theorem toldK3_ok : ToldS Tryz.prog toldK3 := Told.tree_ok toldK2_ok same_told
def toldK4 : Told := (toldK3.tree 90 (okC 3) (ansC 3)).tree 89 (okC 1) (ansC 1)
theorem toldK4_ok : ToldS Tryz.prog toldK4 := Told.tree_ok (Told.tree_ok toldK3_ok cloneV_told) cloneS_told
def toldK : Told := (toldK4.tree 49 (okC 15) (ansC 15)).tree 50 (okC 5) (ansC 5)
theorem toldK_ok : ToldS Tryz.prog toldK := Told.tree_ok (Told.tree_ok toldK4_ok cloneW_told) cloneI_told
theorem vc_wr (k v : Int) (K : AE → Prop) : funK Tryz.prog toldK 100 70 67 [.int .i64 k, .int .i64 v] st0 (fun r _ => K r) =
 (br (k == (1 : Int)) (br (v != (0 : Int)) (K (.returned (.int .i64 (1 : Int)))) (K (.returned (.int .i64 (0 : Int))))) (br (k == (2 : Int)) (br (decide (Int.tmod v (65536 : Int) < (0 : Int))) (br (decide (IntKind.wrap .i64 (Int.tmod v (65536 : Int) + (65536 : Int)) ≥ (32768 : Int))) (K (.returned (.int .i64 (IntKind.wrap .i64 (IntKind.wrap .i64 (Int.tmod v (65536 : Int) + (65536 : Int)) - (65536 : Int)))))) (K (.returned (.int .i64 (IntKind.wrap .i64 (Int.tmod v (65536 : Int) + (65536 : Int))))))) (br (decide (Int.tmod v (65536 : Int) ≥ (32768 : Int))) (K (.returned (.int .i64 (IntKind.wrap .i64 (Int.tmod v (65536 : Int) - (65536 : Int)))))) (K (.returned (.int .i64 (Int.tmod v (65536 : Int))))))) (br (k == (3 : Int)) (br (decide (Int.tmod v (4294967296 : Int) < (0 : Int))) (br (decide (IntKind.wrap .i64 (Int.tmod v (4294967296 : Int) + (4294967296 : Int)) ≥ (2147483648 : Int))) (K (.returned (.int .i64 (IntKind.wrap .i64 (IntKind.wrap .i64 (Int.tmod v (4294967296 : Int) + (4294967296 : Int)) - (4294967296 : Int)))))) (K (.returned (.int .i64 (IntKind.wrap .i64 (Int.tmod v (4294967296 : Int) + (4294967296 : Int))))))) (br (decide (Int.tmod v (4294967296 : Int) ≥ (2147483648 : Int))) (K (.returned (.int .i64 (IntKind.wrap .i64 (Int.tmod v (4294967296 : Int) - (4294967296 : Int)))))) (K (.returned (.int .i64 (Int.tmod v (4294967296 : Int))))))) (br (k == (4 : Int)) (K (.returned (.int .i64 v))) (K (.returned (.int .i64 (0 : Int)))))))) := by kernel_rfl
def wrF (k v : Int) : Int := if k = 1 then (if v = 0 then 0 else 1) else if k = 2 then IntKind.wrap .i16 v else if k = 3 then IntKind.wrap .i32 v else if k = 4 then v else 0
theorem wr16 (x : Int) : IntKind.wrap .i16 x = if x % 65536 < 32768 then x % 65536 else x % 65536 - 65536 := by
 unfold IntKind.wrap
 simp [IntKind.signed, IntKind.bits]
 split <;> split <;> omega
theorem wr32 (x : Int) : IntKind.wrap .i32 x = if x % 4294967296 < 2147483648 then x % 4294967296 else x % 4294967296 - 4294967296 := by
 unfold IntKind.wrap
 simp [IntKind.signed, IntKind.bits]
 split <;> split <;> omega
theorem tmodL (v : Int) (n : Int) (hn : 0 < n) : Int.tmod v n = if 0 ≤ v then v % n else -((-v) % n) := by
 by_cases h : 0 ≤ v
 ·rw [if_pos h]; exact Int.tmod_eq_emod_of_nonneg h
 ·rw [if_neg h]
  have : Int.tmod (-(-v)) n = -(Int.tmod (-v) n) := Int.neg_tmod _ _
  rw [Int.neg_neg] at this
  rw [this, Int.tmod_eq_emod_of_nonneg (by omega)]
theorem wr_main (k v : Int) : funK Tryz.prog toldK 100 70 67 [.int .i64 k, .int .i64 v] st0 (fun r _ => r = .returned (.int .i64 (wrF k v))) := by
 rw [vc_wr k v fun r => r = .returned (.int .i64 (wrF k v))]
 have t1 := tmodL v 65536 (by omega)
 have t2 := tmodL v 4294967296 (by omega)
 have e1 := wr16 v
 have e2 := wr32 v
 have hw : ∀ x : Int, -9223372036854775808 ≤ x → x < 9223372036854775808 → IntKind.wrap .i64 x = x := fun x h1 h2 => w64 h1 h2
 generalize hA : Int.tmod v 65536 = A at *
 generalize hB : Int.tmod v 4294967296 = B at *
 have a1 : -65536 < A ∧ A < 65536 := by split at t1 <;> omega
 have b1 : -4294967296 < B ∧ B < 4294967296 := by split at t2 <;> omega
 rw [hw (A + 65536) (by omega) (by omega), hw (A - 65536) (by omega) (by omega), hw (A + 65536 - 65536) (by omega) (by omega), hw (B + 4294967296) (by omega) (by omega), hw (B - 4294967296) (by omega) (by omega), hw (B + 4294967296 - 4294967296) (by omega) (by omega)]
 unfold wrF
 rw [e1, e2]
 repeat' (with_reducible refine br_of (fun _ => ?_) (fun _ => ?_))
 all_goals refine congrArg (fun x => AE.returned (.int .i64 x)) ?_
 all_goals simp only [beq_iff_eq, beq_eq_false_iff_ne, bne_iff_ne, bne_eq_false_iff_eq, decide_eq_true_eq, decide_eq_false_iff_not, ne_eq, Decidable.not_not] at *
 all_goals (split at t1 <;> split at t2 <;> (repeat' split) <;> first | rfl | omega)
def wrSpec : List Value → Option Value
 | [.int .i64 k, .int .i64 v] => some (.int .i64 (wrF k v))
 | _ => none
def toldP1 : Told := toldK.also 67 wrSpec
theorem toldP1_ok : ToldS Tryz.prog toldP1 := by
 refine Told.also_ok toldK_ok ?_
 intro args v hv
 unfold wrSpec at hv
 split at hv
 ·rename_i k v
  cases hv
  exact ⟨rfl, rfl, fun w args' ha => sym_is (fuel := 100) (n := 70) follows toldK_ok (wr_main k v) w args' ha⟩
 ·cases hv
def viP (l : List U8) (c : Nat) (n : Int) : List (Option AObj) := [some (.cells [.slice (some ⟨1, 0, some 0⟩) l.length c, .int .i64 n] true 0), some (rowO .look l)]
def numF (l : List U8) (n m : Int) : Int × Int := cond (decide (n ≥ Int.ofNat l.length)) (0, n) (Int.tmod (l.getD n.toNat Enc.dflt).v m, n + 1)
theorem vc_num (l : List U8) (c : Nat) (n m : Int) (β : Bs) (K : AE → List (Option AObj) → Prop) : lawE Tryz.prog toldP1 100 20 β (fun _ => 0) (cnOf 2 fun _ => []) (fun _ _ => False) 21 [.pointer (some ⟨0, 0, none⟩), .int .i64 m] (mkS (viP l c n)) (outK K) =
 (fun (z1 : Nat) (z2 : Int) => ((fun (z0 : Int) (z3 : AObj) => ((fun (z4 : Nat) => (br (decide (n ≥ Int.ofNat z1)) (K (.returned (.int .i64 (0 : Int))) [some (.cells [.slice (some ⟨1, 0, some 0⟩) z1 c, .int .i64 n] true 0), some z3]) (need (decide ((0 : Int) ≤ IntKind.wrap .i64 z2)) (need (Nat.blt (Int.toNat z0) z1) (need (Nat.ble 0 z4 && Nat.blt z4 z1) (need (true && !decide (m = (0 : Int))) (K (.returned (.int .i64 (Int.tmod (IntKind.wrap .i64 (U8.v (List.getD l z4 Enc.dflt))) m))) [some (.cells [.slice (some ⟨1, 0, some 0⟩) z1 c, .int .i64 (IntKind.wrap .i64 (n + (1 : Int)))] true 0), some z3]))))))) (0 + Int.toNat z0))) (IntKind.wrap .i64 z2) (.row .look 1 0 z1 (encL l)))) l.length (IntKind.wrap .i64 (n + (1 : Int)) - (1 : Int)) := by kernel_rfl
structure PkOk (l : List U8) (n : Int) : Prop where
 all : l.all (okA U8) = true
 len : l.length ≤ 1000000
 nn : 0 ≤ n
theorem okA_u8r (a : U8) (h : okA U8 a = true) : 0 ≤ a.v ∧ a.v < 256 := by
 have h : (decide (0 ≤ a.v) && decide (a.v < 256)) = true := h
 simpa using h
theorem all_getU8 {l : List U8} (h : l.all (okA U8) = true) {i : Nat} (hi : i < l.length) : 0 ≤ (l.getD i Enc.dflt).v ∧ (l.getD i Enc.dflt).v < 256 := by
 rw [List.all_eq_true] at h
 have : l.getD i Enc.dflt = l[i] := by simp [List.getD, hi]
 rw [this]
 exact okA_u8r _ (h _ (List.getElem_mem hi))
def pkO (k c : Nat) (n : Int) : AObj := .cells [.slice (some ⟨1, 0, some 0⟩) k c, .int .i64 n] true 0
abbrev PkD : Type := List Value → Option (List U8 → Int → Bool × AE × Int)
def spPk (dec : PkD) (args : List Value) (objs : List (Option AObj)) : Option SpT := match args, objs with
 | .pointer (some ⟨0, 0, none⟩) :: xs, [some (.cells [.slice (some ⟨1, 0, some 0⟩) k c, .int .i64 n] true 0), o1] => match dec xs with
  | some F => some (.one ⟨rowB U8 k c o1 && (rowL U8 k o1).all (okA U8) && decide (0 ≤ n) && (F (rowL U8 k o1) n).1, viP (rowL U8 k o1) c n, (F (rowL U8 k o1) n).2.1, [.to (pkO k c (F (rowL U8 k o1) n).2.2), .same], []⟩)
  | none => none
 | _, _ => none
theorem pk_told {P : Program} {g : FuncId} {dec : PkD}
  (h : ∀ xs F (l : List U8) (c : Nat) (n : Int), dec xs = some F → PkOk l n → (F l n).1 = true → c ≤ 1 → ∃ (C : Told) (fuel k : Nat) (un : Nat → Nat) (lvs : Nat → List Nat) (ex : Nat → Kt → Prop), ToldS P C ∧
   ∀ β : Bs, β.X.length = 2 → ∀ K : AE → List (Option AObj) → Prop, (∀ m, m[0]? = some (some (pkO l.length c (F l n).2.2)) → K (F l n).2.1 m) →
    lawE P C fuel k β un (cnOf 2 lvs) ex g (.pointer (some ⟨0, 0, none⟩) :: xs) (mkS (viP l c n)) (outK K))
  (hr : ∀ xs F l n, dec xs = some F → bkE (lkAt 2 []) (F l n).2.1 = (F l n).2.1) : EffOk P g (pickS (spPk dec)) := by
 intro args objs s hs hb
 unfold pickS spPk at hs
 split at hs
 ·rename_i xs k c n o1
  split at hs
  ·rename_i F hd
   simp only [Option.map_some, Option.some.injEq, SpT.pick] at hs
   subst hs
   have hb' := hb
   simp only [Bool.and_eq_true] at hb'
   obtain ⟨⟨⟨b1, b2⟩, b3⟩, b4⟩ := hb'
   obtain ⟨l1, m1, c1, v1⟩ := rowB_ok b1
   refine ⟨⟨rfl, fun i o h => ?_⟩, ?_⟩
   ·match i, h with
    | 0, h => cases h; exact ⟨_, by rw [l1]; rfl, fun h => h, fun _ _ _ h => h⟩
    | 1, h => cases h; obtain ⟨q, rfl, hq⟩ := v1; exact ⟨q, rfl, (fun h => by cases h), hq⟩
    | _ + 2, h => simp [viP] at h
   obtain ⟨C, fuel, kk, un, lvs, ex, hC, hl⟩ := h xs F (rowL U8 k o1) c n hd ⟨b2, by rw [l1]; exact m1, of_decide_eq_true b3⟩ b4 c1
   refine ⟨C, fuel, kk, un, lvs, ex, hC, fun β hβ => ?_⟩
   refine hl β hβ (fun r l => ∃ l2, objsR l l2 ∧ effK ⟨rowB U8 k c o1 && (rowL U8 k o1).all (okA U8) && decide (0 ≤ n) && (F (rowL U8 k o1) n).1, viP (rowL U8 k o1) c n, (F (rowL U8 k o1) n).2.1, [.to (pkO k c (F (rowL U8 k o1) n).2.2), .same], []⟩ r (mkS l2)) fun m hm => ?_
   rw [l1] at hm
   refine ⟨m, objsR.refl _, [], rfl, List.nodup_nil, by simp, (hr xs F _ n hd).symm, fun i o h => ?_, fun j x o h => by simp at h⟩
   match i, h with
   | 0, h => cases h; rw [mkS_get, hm]; rfl
   | 1, h => cases h
   | i + 2, h => simp at h
  ·cases hs
 ·cases hs
def deN : PkD := fun xs => match xs with
 | [.int .i64 m] => some fun l n => (decide (m ≠ 0), .returned (.int .i64 (numF l n m).1), (numF l n m).2)
 | _ => none
theorem num_law {l : List U8} {n m : Int} {β : Bs} {K : AE → List (Option AObj) → Prop} (hp : PkOk l n) (hm : m ≠ 0) (c : Nat) (hK : ∀ q, q[0]? = some (some (pkO l.length c (numF l n m).2)) → K (.returned (.int .i64 (numF l n m).1)) q) :
  lawE Tryz.prog toldP1 100 20 β (fun _ => 0) (cnOf 2 fun _ => []) (fun _ _ => False) 21 [.pointer (some ⟨0, 0, none⟩), .int .i64 m] (mkS (viP l c n)) (outK K) := by
 refine (vc_num l c n m β K).mpr ?_
 have hlen := hp.len
 have hnn := hp.nn
 refine br_of (fun hd => ?_) (fun hd => ?_)
 ·have e1 : numF l n m = (0, n) := by unfold numF; rw [hd]; rfl
  rw [e1] at hK
  exact hK _ rfl
 ·have hlt : n < (l.length : Int) := by simpa using hd
  have w1 : IntKind.wrap .i64 (n + 1) = n + 1 := w64 (by omega) (by omega)
  have w2 : IntKind.wrap .i64 (n + 1 - 1) = n := by rw [w64 (by omega) (by omega)]; omega
  have hn : n.toNat < l.length := by omega
  obtain ⟨u1, u2⟩ := all_getU8 hp.all hn
  have w3 : IntKind.wrap .i64 (l.getD n.toNat Enc.dflt).v = (l.getD n.toNat Enc.dflt).v := w64 (by omega) (by omega)
  have e1 : numF l n m = (Int.tmod (l.getD n.toNat Enc.dflt).v m, n + 1) := by unfold numF; rw [hd]; rfl
  rw [e1] at hK
  rw [w1, w2, Nat.zero_add, w3]
  refine nd_ (by simpa using hnn) (nd_ (by simpa using hn) (nd_ (by simpa using hn) (nd_ (by simpa using hm) (hK _ rfl))))
theorem num_told : EffOk Tryz.prog 21 (pickS (spPk deN)) := by
 refine pk_told (fun xs F l c n hd hp hb hc => ?_) (fun xs F l n hd => ?_)
 ·unfold deN at hd
  split at hd
  ·rename_i m
   cases hd
   exact ⟨toldP1, 100, 20, fun _ => 0, fun _ => [], fun _ _ => False, toldP1_ok, fun β _ K hK => num_law hp (by simpa using hb) c hK⟩
  ·cases hd
 ·unfold deN at hd
  split at hd
  ·cases hd; rfl
  ·cases hd
def toldP2 : Told := toldP1.effT 21 (spPk deN)
theorem toldP2_ok : ToldS Tryz.prog toldP2 := Told.effT_ok follows toldP1_ok num_told
theorem nF_ {l : List U8} {n m : Int} (hp : PkOk l n) (hm : 0 < m) : 0 ≤ (numF l n m).1 ∧ (numF l n m).1 < m ∧ PkOk l (numF l n m).2 := by
 unfold numF
 cases hd : decide (n ≥ Int.ofNat l.length) with
 | true => exact ⟨Int.le_refl _, hm, hp⟩
 | false =>
  have hlt : n < (l.length : Int) := by simpa using hd
  have hn : n.toNat < l.length := by have := hp.nn; omega
  obtain ⟨u1, u2⟩ := all_getU8 hp.all hn
  have hnn := hp.nn
  refine ⟨?_, ?_, ⟨hp.all, hp.len, by show 0 ≤ n + 1; omega⟩⟩
  ·exact Int.tmod_nonneg _ u1
  ·show Int.tmod _ _ < m
   exact Int.tmod_lt_of_pos _ hm
def Lr (l : List U8) : List U8 := rowL U8 (List.length l) (some (.row .look 1 0 (List.length l) (encL l)))
def Br (l : List U8) (c : Nat) : Bool := rowB U8 (List.length l) c (some (.row .look 1 0 (List.length l) (encL l)))
theorem Lr_eq (l : List U8) : Lr l = l := rowL_enc l _ _ _ _
theorem PkOk.br {l : List U8} {n : Int} (hp : PkOk l n) {c : Nat} (hc : c ≤ 1) : Br l c = true := rowB_of .look rfl rfl hp.all hp.len hc
theorem vc_real (l : List U8) (c : Nat) (n : Int) (β : Bs) (K : AE → List (Option AObj) → Prop) : lawE Tryz.prog toldP2 100 20 β (fun _ => 0) (cnOf 2 fun _ => []) (fun _ _ => False) 44 [.pointer (some ⟨0, 0, none⟩)] (mkS (viP l c n)) (outK K) =
 (fun (z4 : Nat) => ((fun (z3 : AObj) => ((fun (z2 : List U8) => ((fun (z5 : Int × Int) => ((fun (z0 : List (Option AObj)) (z1 : Nat) => (need (rowB U8 z4 c (some z3) && List.all z2 (okA U8) && decide ((0 : Int) ≤ n) && true) (need (decide ((0 : Int) ≤ Prod.fst z5)) (br (Nat.beq z1 0) (K (.returned (.float .f64 0)) z0) (br (Nat.beq z1 1) (K (.returned (.float .f64 9223372036854775808)) z0) (br (Nat.beq z1 2) (K (.returned (.float .f64 4607182418800017408)) z0) (br (Nat.beq z1 3) (K (.returned (.float .f64 13830554455654793216)) z0) (br (Nat.beq z1 4) (K (.returned (.float .f64 4602678819172646912)) z0) (br (Nat.beq z1 5) (K (.returned (.float .f64 4612811918334230528)) z0) (br (Nat.beq z1 6) (K (.returned (.float .f64 13838998704956112896)) z0) (br (Nat.beq z1 7) (K (.returned (.float .f64 9094988921128908188)) z0) (br (Nat.beq z1 8) (K (.returned (.float .f64 2024)) z0) (br (Nat.beq z1 9) (K (.returned (.float .f64 9218868437227405312)) z0) (br (Nat.beq z1 10) (K (.returned (.float .f64 18442240474082181120)) z0) (br (Nat.beq z1 11) (K (.returned (.float .f64 9221120237041090560)) z0) (br (Nat.beq z1 12) (K (.returned (.float .f64 4674736413210574848)) z0) (br (Nat.beq z1 13) (K (.returned (.float .f64 4891288408196988160)) z0) (need (Nat.beq z1 14) (K (.returned (.float .f64 4636737291354636288)) z0))))))))))))))))))) [some (.cells [.slice (some ⟨1, 0, some 0⟩) z4 c, .int .i64 (Prod.snd z5)] true 0), some z3, some (.cells [.float .f64 0, .float .f64 9223372036854775808, .float .f64 4607182418800017408, .float .f64 13830554455654793216, .float .f64 4602678819172646912, .float .f64 4612811918334230528, .float .f64 13838998704956112896, .float .f64 9094988921128908188, .float .f64 2024, .float .f64 9218868437227405312, .float .f64 18442240474082181120, .float .f64 9221120237041090560, .float .f64 4674736413210574848, .float .f64 4891288408196988160, .float .f64 4636737291354636288] true 1), none] (Int.toNat (Prod.fst z5)))) (numF z2 n (15 : Int)))) (rowL U8 z4 (some z3)))) (.row .look 1 0 z4 (encL l)))) l.length := by kernel_rfl
theorem vc_whole (l : List U8) (c : Nat) (n k : Int) (β : Bs) (K : AE → List (Option AObj) → Prop) : lawE Tryz.prog toldP2 100 20 β (fun _ => 0) (cnOf 2 fun _ => []) (fun _ _ => False) 45 [.pointer (some ⟨0, 0, none⟩), .int .i64 k] (mkS (viP l c n)) (outK K) =
 (fun (z4 : Nat) (z6 z7 : Int) => ((fun (z3 : AObj) => ((fun (z2 : List U8) => ((fun (z5 : Int × Int) => ((fun (z0 : List (Option AObj)) (z1 : Nat) => (need (rowB U8 z4 c (some z3) && List.all z2 (okA U8) && decide ((0 : Int) ≤ n) && true) (need (decide ((0 : Int) ≤ Prod.fst z5)) (br (Nat.beq z1 0) (K (.returned (.int .i64 (wrF k (0 : Int)))) z0) (br (Nat.beq z1 1) (K (.returned (.int .i64 (wrF k (1 : Int)))) z0) (br (Nat.beq z1 2) (K (.returned (.int .i64 (wrF k (2 : Int)))) z0) (br (Nat.beq z1 3) (K (.returned (.int .i64 (wrF k (3 : Int)))) z0) (br (Nat.beq z1 4) (K (.returned (.int .i64 (wrF k (-1 : Int)))) z0) (br (Nat.beq z1 5) (K (.returned (.int .i64 (wrF k (7 : Int)))) z0) (br (Nat.beq z1 6) (K (.returned (.int .i64 (wrF k (32767 : Int)))) z0) (br (Nat.beq z1 7) (K (.returned (.int .i64 (wrF k (-32768 : Int)))) z0) (br (Nat.beq z1 8) (K (.returned (.int .i64 (wrF k (2147483647 : Int)))) z0) (br (Nat.beq z1 9) (K (.returned (.int .i64 (wrF k (-2147483648 : Int)))) z0) (br (Nat.beq z1 10) (K (.returned (.int .i64 (wrF k (100 : Int)))) z0) (br (Nat.beq z1 11) (K (.returned (.int .i64 (wrF k z7))) z0) (need (Nat.beq z1 12) (K (.returned (.int .i64 (wrF k z6))) z0))))))))))))))))) [some (.cells [.slice (some ⟨1, 0, some 0⟩) z4 c, .int .i64 (Prod.snd z5)] true 0), some z3, some (.cells [.int .i64 (0 : Int), .int .i64 (1 : Int), .int .i64 (2 : Int), .int .i64 (3 : Int), .int .i64 (-1 : Int), .int .i64 (7 : Int), .int .i64 (32767 : Int), .int .i64 (-32768 : Int), .int .i64 (2147483647 : Int), .int .i64 (-2147483648 : Int), .int .i64 (100 : Int), .int .i64 z7, .int .i64 z6] true 1), none] (Int.toNat (Prod.fst z5)))) (numF z2 n (13 : Int)))) (rowL U8 z4 (some z3)))) (.row .look 1 0 z4 (encL l)))) l.length (-9223372036854775808 : Int) (9223372036854775807 : Int) := by kernel_rfl
theorem selN_of {i : Nat} {K : Nat → Prop} : ∀ {r j : Nat}, j ≤ i → i < j + r → K i → selN r j i K
 | 0, j, h1, h2, _ => by omega
 | r + 1, j, h1, h2, h => br_of (fun hb => by rw [← Nat.eq_of_beq_eq_true hb]; exact h) fun hb => selN_of (Nat.lt_of_le_of_ne h1 fun e => by rw [e, Nat.beq_refl] at hb; cases hb) (by omega) h
def realT : List Nat := [0, 9223372036854775808, 4607182418800017408, 13830554455654793216, 4602678819172646912, 4612811918334230528, 13838998704956112896, 9094988921128908188, 2024, 9218868437227405312, 18442240474082181120, 9221120237041090560, 4674736413210574848, 4891288408196988160, 4636737291354636288]
def realF (l : List U8) (n : Int) : Nat × Int := (realT.getD (numF l n 15).1.toNat 0, (numF l n 15).2)
def wholeT : List Int := [0, 1, 2, 3, -1, 7, 32767, -32768, 2147483647, -2147483648, 100, 9223372036854775807, -9223372036854775808]
def wholeF (l : List U8) (n k : Int) : Int × Int := (wrF k (wholeT.getD (numF l n 13).1.toNat 0), (numF l n 13).2)
theorem PkOk.b {l : List U8} {n : Int} (hp : PkOk l n) {c : Nat} (hc : c ≤ 1) : rowB U8 l.length c (some (.row .look 1 0 l.length (encL l))) = true := rowB_of .look rfl rfl hp.all hp.len hc
theorem PkOk.d {l : List U8} {n : Int} (hp : PkOk l n) : decide (0 ≤ n) = true := by simpa using hp.nn
def deR : PkD := fun xs => match xs with
 | [] => some fun l n => (true, .returned (.float .f64 (realF l n).1), (realF l n).2)
 | _ => none
theorem real_law {l : List U8} {n : Int} {β : Bs} {K : AE → List (Option AObj) → Prop} (hp : PkOk l n) {c : Nat} (hc : c ≤ 1) (hK : ∀ q, q[0]? = some (some (pkO l.length c (realF l n).2)) → K (.returned (.float .f64 (realF l n).1)) q) :
  lawE Tryz.prog toldP2 100 20 β (fun _ => 0) (cnOf 2 fun _ => []) (fun _ _ => False) 44 [.pointer (some ⟨0, 0, none⟩)] (mkS (viP l c n)) (outK K) := by
 refine (vc_real l c n β K).mpr ?_
 obtain ⟨k1, k2, k3⟩ := nF_ (m := 15) hp (by omega)
 rw [rowL_enc, hp.b hc, hp.all, hp.d]
 refine nd_ rfl (nd_ (by simpa using k1) ?_)
 show selN 15 0 _ (fun i => K (.returned (.float .f64 (realT.getD i 0))) _)
 exact selN_of (Nat.zero_le _) (by omega) (hK _ rfl)
def deW : PkD := fun xs => match xs with
 | [.int .i64 k] => some fun l n => (true, .returned (.int .i64 (wholeF l n k).1), (wholeF l n k).2)
 | _ => none
theorem whole_law {l : List U8} {n k : Int} {β : Bs} {K : AE → List (Option AObj) → Prop} (hp : PkOk l n) {c : Nat} (hc : c ≤ 1) (hK : ∀ q, q[0]? = some (some (pkO l.length c (wholeF l n k).2)) → K (.returned (.int .i64 (wholeF l n k).1)) q) :
  lawE Tryz.prog toldP2 100 20 β (fun _ => 0) (cnOf 2 fun _ => []) (fun _ _ => False) 45 [.pointer (some ⟨0, 0, none⟩), .int .i64 k] (mkS (viP l c n)) (outK K) := by
 refine (vc_whole l c n k β K).mpr ?_
 obtain ⟨k1, k2, k3⟩ := nF_ (m := 13) hp (by omega)
 rw [rowL_enc, hp.b hc, hp.all, hp.d]
 refine nd_ rfl (nd_ (by simpa using k1) ?_)
 show selN 13 0 _ (fun i => K (.returned (.int .i64 (wrF k (wholeT.getD i 0)))) _)
 exact selN_of (Nat.zero_le _) (by omega) (hK _ rfl)
theorem real_told : EffOk Tryz.prog 44 (pickS (spPk deR)) := by
 refine pk_told (fun xs F l c n hd hp hb hc => ?_) (fun xs F l n hd => ?_)
 ·unfold deR at hd
  split at hd
  ·cases hd
   exact ⟨toldP2, 100, 20, fun _ => 0, fun _ => [], fun _ _ => False, toldP2_ok, fun β _ K hK => real_law hp hc hK⟩
  ·cases hd
 ·unfold deR at hd
  split at hd
  ·cases hd; rfl
  ·cases hd
theorem whole_told : EffOk Tryz.prog 45 (pickS (spPk deW)) := by
 refine pk_told (fun xs F l c n hd hp hb hc => ?_) (fun xs F l n hd => ?_)
 ·unfold deW at hd
  split at hd
  ·cases hd
   exact ⟨toldP2, 100, 20, fun _ => 0, fun _ => [], fun _ _ => False, toldP2_ok, fun β _ K hK => whole_law hp hc hK⟩
  ·cases hd
 ·unfold deW at hd
  split at hd
  ·cases hd; rfl
  ·cases hd
def toldP3 : Told := (toldP2.effT 44 (spPk deR)).effT 45 (spPk deW)
theorem toldP3_ok : ToldS Tryz.prog toldP3 := Told.effT_ok follows (Told.effT_ok follows toldP2_ok real_told) whole_told
theorem realF_ok {l : List U8} {n : Int} (hp : PkOk l n) : PkOk l (realF l n).2 := (nF_ (m := 15) hp (by omega)).2.2
theorem wholeF_ok {l : List U8} {n : Int} (k : Int) (hp : PkOk l n) : PkOk l (wholeF l n k).2 := (nF_ (m := 13) hp (by omega)).2.2
theorem vc_pval (l : List U8) (c : Nat) (n k : Int) (β : Bs) (K : AE → List (Option AObj) → Prop) : lawE Tryz.prog toldP3 100 20 β (fun _ => 0) (cnOf 2 fun _ => []) (fun _ _ => False) 22 [.pointer (some ⟨0, 0, none⟩), .int .i64 k] (mkS (viP l c n)) (outK K) =
 (fun (z6 : Nat) (z7 : Addr) => ((fun (z2 : AObj) => ((fun (z0 : List U8) => ((fun (z1 : Bool) (z3 z4 z5 : List Value) => (br (k == (1 : Int)) (need z1 (K (.returned (Value.agg (Array.mk z5))) [some (.cells [.slice (some z7) z6 c, .int .i64 (Prod.snd (numF z0 n (2 : Int)))] true 0), some z2, some (.cells z5 true 0), none])) (br (k == (5 : Int)) (need z1 (K (.returned (Value.agg (Array.mk z4))) [some (.cells [.slice (some z7) z6 c, .int .i64 (Prod.snd (numF z0 n (15 : Int)))] true 0), some z2, some (.cells z4 true 0), none])) (need z1 (K (.returned (Value.agg (Array.mk z3))) [some (.cells [.slice (some z7) z6 c, .int .i64 (Prod.snd (numF z0 n (13 : Int)))] true 0), some z2, some (.cells z3 true 0), none]))))) (rowB U8 z6 c (some z2) && List.all z0 (okA U8) && decide ((0 : Int) ≤ n) && true) [.int .i64 k, .int .i64 (wrF k (List.getD wholeT (Int.toNat (Prod.fst (numF z0 n (13 : Int)))) (0 : Int))), .float .f64 0] [.int .i64 (5 : Int), .int .i64 (0 : Int), .float .f64 (List.getD realT (Int.toNat (Prod.fst (numF z0 n (15 : Int)))) 0)] [.int .i64 (1 : Int), .int .i64 (Prod.fst (numF z0 n (2 : Int))), .float .f64 0])) (rowL U8 z6 (some z2)))) (.row .look 1 0 z6 (encL l)))) l.length ⟨1, 0, some 0⟩ := by kernel_rfl
def pvF (l : List U8) (n k : Int) : Vl × Int := cond (k == 1) (⟨1, (numF l n 2).1, 0⟩, (numF l n 2).2) (cond (k == 5) (⟨5, 0, (realF l n).1⟩, (realF l n).2) (⟨k, (wholeF l n k).1, 0⟩, (wholeF l n k).2))
def vlV (v : Vl) : Value := .agg ⟨[.int .i64 v.k, .int .i64 v.i, .float .f64 v.f]⟩
def deL : PkD := fun xs => match xs with
 | [.int .i64 k] => some fun l n => (true, .returned (vlV (pvF l n k).1), (pvF l n k).2)
 | _ => none
theorem pval_law {l : List U8} {n k : Int} {β : Bs} {K : AE → List (Option AObj) → Prop} (hp : PkOk l n) {c : Nat} (hc : c ≤ 1) (hK : ∀ q, q[0]? = some (some (pkO l.length c (pvF l n k).2)) → K (.returned (vlV (pvF l n k).1)) q) :
  lawE Tryz.prog toldP3 100 20 β (fun _ => 0) (cnOf 2 fun _ => []) (fun _ _ => False) 22 [.pointer (some ⟨0, 0, none⟩), .int .i64 k] (mkS (viP l c n)) (outK K) := by
 refine (vc_pval l c n k β K).mpr ?_
 try dsimp only
 rw [rowL_enc, hp.b hc, hp.all, hp.d]
 unfold pvF at hK
 refine br_of (fun h1 => ?_) (fun h1 => br_of (fun h2 => ?_) (fun h2 => ?_))
 ·rw [h1] at hK
  exact nd_ rfl (hK _ rfl)
 ·rw [h1, h2] at hK
  exact nd_ rfl (hK _ rfl)
 ·rw [h1, h2] at hK
  exact nd_ rfl (hK _ rfl)
theorem pval_told : EffOk Tryz.prog 22 (pickS (spPk deL)) := by
 refine pk_told (fun xs F l c n hd hp hb hc => ?_) (fun xs F l n hd => ?_)
 ·unfold deL at hd
  split at hd
  ·cases hd
   exact ⟨toldP3, 100, 20, fun _ => 0, fun _ => [], fun _ _ => False, toldP3_ok, fun β _ K hK => pval_law hp hc hK⟩
  ·cases hd
 ·unfold deL at hd
  split at hd
  ·cases hd; rfl
  ·cases hd
def toldP4 : Told := toldP3.effT 22 (spPk deL)
theorem toldP4_ok : ToldS Tryz.prog toldP4 := Told.effT_ok follows toldP3_ok pval_told
theorem pvF_ok {l : List U8} {n : Int} (k : Int) (hp : PkOk l n) : PkOk l (pvF l n k).2 := by
 unfold pvF
 cases k == 1 with
 | true => exact (nF_ (m := 2) hp (by omega)).2.2
 | false =>
  cases k == 5 with
  | true => exact realF_ok hp
  | false => exact wholeF_ok k hp
def ptsL : List St := [⟨⟨#[110]⟩⟩, ⟨⟨#[120]⟩⟩, ⟨⟨#[114]⟩⟩, ⟨⟨#[107, 91, 48, 93]⟩⟩, ⟨⟨#[107, 91, 49, 93]⟩⟩, ⟨⟨#[111]⟩⟩, ⟨⟨#[97]⟩⟩, ⟨⟨#[98]⟩⟩, ⟨⟨#[122, 122]⟩⟩, ⟨⟨#[107, 91, 57, 93]⟩⟩]
def msC (k id : Int) (ps vs : Value) : List Value := [.int .i64 k, .int .i64 id, .int .i64 0, .int .i64 0, .int .i64 0, .bool false, .int .i64 0, .int .i64 0, .int .i64 0, .float .f64 0, ps, vs]
def slA1 : List Nat := [0, 4, 5, 6, 7]
def slA2 : List Nat := [0, 4, 6, 8]
def lvsA (b : Nat) : List Nat := cond (Nat.beq b 1) slA1 slA2
def lvA1 : AX → List Nat := fun _ => slA1
def lvA2 : AX → List Nat := fun _ => slA2
def paL (l : List U8) : Nat → Int → List St → List St × Int
 | 0, n, ps => (ps, n)
 | r + 1, n, ps => paL l r (numF l n 10).2 (ps ++ [ptsL.getD (numF l n 10).1.toNat Enc.dflt])
def FA1 (i : Int) : AFr := mkF 102 [(0, .pointer (some ⟨0, 0, none⟩)), (4, .pointer (some ⟨2, 0, none⟩)), (5, .slice (some ⟨3, 0, some 0⟩) 10 10), (6, .pointer (some ⟨4, 0, none⟩)), (7, .int .i64 i)]
def SA1 (l : List U8) (c : Nat) (id : Int) (n : Int) (ps : List St) (cp : Nat) : ASt := mkS [some (pkO l.length c n), some (rowO .look l), some (.cells (msC 0 0 (.slice none 0 0) (.slice none 0 0)) true 0), some (.row .mine 1 0 10 (encL ptsL)), some (.cells (msC 1 id (.slice (some ⟨5, 0, some 0⟩) ps.length cp) (.slice none 0 0)) true 0), some (rowO .mine ps)]
def exA1 (l : List U8) (c : Nat) (id : Int) (r : Nat) (n : Int) : Nat → Kt → Prop := fun b K => K (.exit b) (FA1 0) (SA1 l c id (paL l r n []).2 (paL l r n []).1 1)
theorem vc_ask1 (l : List U8) (c : Nat) (id : Int) (r0 : Nat) (n0 : Int) (n i : Int) (ps : List St) (cp : Nat) (β : Bs) (Nx : Kt) : roundJ Tryz.prog toldP4 100 20 β (fun _ => 0) (cnOf 2 lvsA) (exA1 l c id r0 n0) 17 1 2 lvA1 (FA1 i) (SA1 l c id n ps cp) Nx =
 (fun (z0 z7 : AObj) (z1 : Int × Int) (z2 : Bool) (z5 z6 z8 : Nat) => ((fun (z3 : Nat) (z4 : AObj) => (br (decide (i > (0 : Int))) (need z2 (need z2 (need (decide ((0 : Int) ≤ Prod.fst z1)) (need (Nat.blt (Int.toNat (Prod.fst z1)) 10) (need (Nat.ble 0 z3 && Nat.blt z3 10) (need (Nat.ble z6 1000000) (need (true && Nat.ble (0 + List.length ps) z5) (Nx .normal (mkF 102 [(0, .pointer (some ⟨0, 0, none⟩)), (4, .pointer (some ⟨2, 0, none⟩)), (5, .slice (some ⟨3, 0, some 0⟩) 10 10), (6, .pointer (some ⟨4, 0, none⟩)), (7, .int .i64 (IntKind.wrap .i64 (i - (1 : Int))))]) (mkS [some (.cells [.slice (some ⟨1, 0, some 0⟩) z8 c, .int .i64 (Prod.snd z1)] true 0), some z4, some z0, some z7, some (.cells [.int .i64 (1 : Int), .int .i64 id, .int .i64 (0 : Int), .int .i64 (0 : Int), .int .i64 (0 : Int), .bool false, .int .i64 (0 : Int), .int .i64 (0 : Int), .int .i64 (0 : Int), .float .f64 0, .slice (some ⟨5, 0, some 0⟩) z6 cp, .slice none 0 0] true 0), some (.row .mine 1 0 z6 fun j k => mrgT (Nat.blt j z5) (encL ps (0 + j) k) (selT 1 1 [.sc (.string (St.s (List.getD ptsL z3 Enc.dflt)))] (j - List.length ps) k))]))))))))) (Nx (.exit 1) (mkF 102 [(0, .pointer (some ⟨0, 0, none⟩)), (4, .pointer (some ⟨2, 0, none⟩)), (5, .slice (some ⟨3, 0, some 0⟩) 10 10), (6, .pointer (some ⟨4, 0, none⟩)), (7, .int .i64 i)]) (mkS [some (.cells [.slice (some ⟨1, 0, some 0⟩) z8 c, .int .i64 n] true 0), some z4, some z0, some z7, some (.cells [.int .i64 (1 : Int), .int .i64 id, .int .i64 (0 : Int), .int .i64 (0 : Int), .int .i64 (0 : Int), .bool false, .int .i64 (0 : Int), .int .i64 (0 : Int), .int .i64 (0 : Int), .float .f64 0, .slice (some ⟨5, 0, some 0⟩) z5 cp, .slice none 0 0] true 0), some (.row .mine 1 0 z5 (encL ps))])))) (0 + Int.toNat (Prod.fst z1)) (.row .look 1 0 z8 (encL l)))) (.cells [.int .i64 (0 : Int), .int .i64 (0 : Int), .int .i64 (0 : Int), .int .i64 (0 : Int), .int .i64 (0 : Int), .bool false, .int .i64 (0 : Int), .int .i64 (0 : Int), .int .i64 (0 : Int), .float .f64 0, .slice none 0 0, .slice none 0 0] true 0) (.row .mine 1 0 10 (encL ptsL)) (numF (Lr l) n (10 : Int)) (Br l c && List.all (Lr l) (okA U8) && decide ((0 : Int) ≤ n) && true) ps.length (List.length ps + 1) l.length := by kernel_rfl
def wpathsL : List St := [⟨⟨#[120]⟩⟩, ⟨⟨#[107, 91, 48, 93]⟩⟩, ⟨⟨#[114]⟩⟩, ⟨⟨#[120]⟩⟩, ⟨⟨#[107, 91, 49, 93]⟩⟩, ⟨⟨#[111]⟩⟩]
def wrV (l : List U8) (n : Int) : Vl × Int := cond ((numF l n 6).1 == 2) (pvF l (numF l (numF l n 6).2 4).2 5) (⟨2, (numF l (numF l n 6).2 4).1, 0⟩, (numF l (numF l n 6).2 4).2)
def wrL (l : List U8) : Nat → Int → List St → List Vl → List St × List Vl × Int
 | 0, n, ps, vs => (ps, vs, n)
 | r + 1, n, ps, vs => wrL l r (wrV l n).2 (ps ++ [wpathsL.getD (numF l n 6).1.toNat Enc.dflt]) (vs ++ [(wrV l n).1])
def FA2 (i : Int) : AFr := mkF 102 [(0, .pointer (some ⟨0, 0, none⟩)), (4, .pointer (some ⟨2, 0, none⟩)), (6, .pointer (some ⟨3, 0, none⟩)), (8, .int .i64 i)]
def SA2 (l : List U8) (c : Nat) (id : Int) (n : Int) (ps : List St) (cp : Nat) (vs : List Vl) (cv : Nat) : ASt := mkS [some (pkO l.length c n), some (rowO .look l), some (.cells (msC 0 0 (.slice none 0 0) (.slice none 0 0)) true 0), some (.cells (msC 2 id (.slice (some ⟨4, 0, some 0⟩) ps.length cp) (.slice (some ⟨5, 0, some 0⟩) vs.length cv)) true 0), some (rowO .mine ps), some (rowO .mine vs)]
def exA2 (l : List U8) (c : Nat) (id : Int) (r : Nat) (n : Int) : Nat → Kt → Prop := fun b K => K (.exit b) (FA2 0) (SA2 l c id (wrL l r n [] []).2.2 (wrL l r n [] []).1 1 (wrL l r n [] []).2.1 1)
theorem vc_ask2 (l : List U8) (c : Nat) (id : Int) (r0 : Nat) (n0 : Int) (n i : Int) (ps : List St) (cp : Nat) (vs : List Vl) (cv : Nat) (β : Bs) (Nx : Kt) : roundJ Tryz.prog toldP4 100 20 β (fun _ => 0) (cnOf 2 lvsA) (exA2 l c id r0 n0) 17 3 2 lvA2 (FA2 i) (SA2 l c id n ps cp vs cv) Nx =
 (fun (z1 : AObj) (z3 : AFr) (z14 : Int × Int) (z15 z24 z26 z27 z29 : Nat) (z28 : Addr) => ((fun (z0 z10 z16 z17 z19 z20 z21 : AObj) (z6 : Int × Int) (z8 z11 z12 z18 z23 z25 : Bool) (z22 : Nat) => ((fun (z5 z9 : AObj) (z13 : Bool) (z30 : Int × Int) => ((fun (z4 z7 : AObj) => ((fun (z2 : Prop) => (br (decide (i > (0 : Int))) (need (Br l c && List.all (Lr l) (okA U8) && decide ((0 : Int) ≤ n) && true) (need (decide ((0 : Int) ≤ Prod.fst z14)) (br (Nat.beq z22 0) z2 (br (Nat.beq z22 1) (need z25 (need z18 (need z11 (br z23 (need z13 (need z12 (need z8 (Nx .normal z3 (mkS [some z7, some z10, some z1, some z0, some z16, some z4]))))) (need z12 (need z8 (Nx .normal z3 (mkS [some z9, some z10, some z1, some z0, some z16, some z5])))))))) (br (Nat.beq z22 2) (need z25 (need z18 (need z11 (br z23 (need z13 (need z12 (need z8 (Nx .normal z3 (mkS [some z7, some z10, some z1, some z0, some z19, some z4]))))) (need z12 (need z8 (Nx .normal z3 (mkS [some z9, some z10, some z1, some z0, some z19, some z5])))))))) (br (Nat.beq z22 3) z2 (br (Nat.beq z22 4) (need z25 (need z18 (need z11 (br z23 (need z13 (need z12 (need z8 (Nx .normal z3 (mkS [some z7, some z10, some z1, some z0, some z17, some z4]))))) (need z12 (need z8 (Nx .normal z3 (mkS [some z9, some z10, some z1, some z0, some z17, some z5])))))))) (need (Nat.beq z22 5) (need z25 (need z18 (need z11 (br z23 (need z13 (need z12 (need z8 (Nx .normal z3 (mkS [some z7, some z10, some z1, some z0, some z20, some z4]))))) (need z12 (need z8 (Nx .normal z3 (mkS [some z9, some z10, some z1, some z0, some z20, some z5])))))))))))))))) (Nx (.exit 3) (mkF 102 [(0, .pointer (some ⟨0, 0, none⟩)), (4, .pointer (some ⟨2, 0, none⟩)), (6, .pointer (some ⟨3, 0, none⟩)), (8, .int .i64 i)]) (mkS [some (.cells [.slice (some z28) z29 c, .int .i64 n] true 0), some z10, some z1, some (.cells [.int .i64 (2 : Int), .int .i64 id, .int .i64 (0 : Int), .int .i64 (0 : Int), .int .i64 (0 : Int), .bool false, .int .i64 (0 : Int), .int .i64 (0 : Int), .int .i64 (0 : Int), .float .f64 0, .slice (some ⟨4, 0, some 0⟩) z24 cp, .slice (some ⟨5, 0, some 0⟩) z26 cv] true 0), some (.row .mine 1 0 z24 (encL ps)), some (.row .mine 3 0 z26 (encL vs))])))) (need z25 (need z18 (need z11 (br z23 (need z13 (need z12 (need z8 (Nx .normal z3 (mkS [some z7, some z10, some z1, some z0, some z21, some z4]))))) (need z12 (need z8 (Nx .normal z3 (mkS [some z9, some z10, some z1, some z0, some z21, some z5])))))))))) (.row .mine 3 0 z27 fun j k => mrgT (Nat.blt j z26) (encL vs (0 + j) k) (selT 3 1 [.sc (.int .i64 (5 : Int)), .sc (.int .i64 (0 : Int)), .sc (.float .f64 (List.getD realT (Int.toNat (Prod.fst z30)) 0))] (j - List.length vs) k)) (.cells [.slice (some z28) z29 c, .int .i64 (Prod.snd z30)] true 0))) (.row .mine 3 0 z27 fun j k => mrgT (Nat.blt j z26) (encL vs (0 + j) k) (selT 3 1 [.sc (.int .i64 (2 : Int)), .sc (.int .i64 (Prod.fst z6)), .sc (.float .f64 0)] (j - List.length vs) k)) (.cells [.slice (some z28) z29 c, .int .i64 (Prod.snd z6)] true 0) (Br l c && List.all (Lr l) (okA U8) && decide ((0 : Int) ≤ Prod.snd z6) && true) (numF (Lr l) (Prod.snd z6) (15 : Int)))) (.cells [.int .i64 (2 : Int), .int .i64 id, .int .i64 (0 : Int), .int .i64 (0 : Int), .int .i64 (0 : Int), .bool false, .int .i64 (0 : Int), .int .i64 (0 : Int), .int .i64 (0 : Int), .float .f64 0, .slice (some ⟨4, 0, some 0⟩) z15 cp, .slice (some ⟨5, 0, some 0⟩) z27 cv] true 0) (.row .look 1 0 z29 (encL l)) (.row .mine 1 0 z15 fun j k => mrgT (Nat.blt j z24) (encL ps (0 + j) k) (selT 1 1 [.sc (.string (ByteArray.mk #[(107 : UInt8), (91 : UInt8), (48 : UInt8), (93 : UInt8)]))] (j - List.length ps) k)) (.row .mine 1 0 z15 fun j k => mrgT (Nat.blt j z24) (encL ps (0 + j) k) (selT 1 1 [.sc (.string (ByteArray.mk #[(107 : UInt8), (91 : UInt8), (49 : UInt8), (93 : UInt8)]))] (j - List.length ps) k)) (.row .mine 1 0 z15 fun j k => mrgT (Nat.blt j z24) (encL ps (0 + j) k) (selT 1 1 [.sc (.string (ByteArray.mk #[(114 : UInt8)]))] (j - List.length ps) k)) (.row .mine 1 0 z15
 fun j k => mrgT (Nat.blt j z24) (encL ps (0 + j) k) (selT 1 1 [.sc (.string (ByteArray.mk #[(111 : UInt8)]))] (j - List.length ps) k)) (.row .mine 1 0 z15 fun j k => mrgT (Nat.blt j z24) (encL ps (0 + j) k) (selT 1 1 [.sc (.string (ByteArray.mk #[(120 : UInt8)]))] (j - List.length ps) k)) (numF (Lr l) (Prod.snd z14) (4 : Int)) (true && Nat.ble (0 + List.length vs) z26) (Br l c && List.all (Lr l) (okA U8) && decide ((0 : Int) ≤ Prod.snd z14) && true) (Nat.ble z27 1000000) (true && Nat.ble (0 + List.length ps) z24) (Prod.fst z14 == (2 : Int)) (Nat.ble z15 1000000) (Int.toNat (Prod.fst z14)))) (.cells [.int .i64 (0 : Int), .int .i64 (0 : Int), .int .i64 (0 : Int), .int .i64 (0 : Int), .int .i64 (0 : Int), .bool false, .int .i64 (0 : Int), .int .i64 (0 : Int), .int .i64 (0 : Int), .float .f64 0, .slice none 0 0, .slice none 0 0] true 0) (mkF 102 [(0, .pointer (some ⟨0, 0, none⟩)), (4, .pointer (some ⟨2, 0, none⟩)), (6, .pointer (some ⟨3, 0, none⟩)), (8, .int .i64 (IntKind.wrap .i64 (i - (1 : Int))))]) (numF (Lr l) n (6 : Int)) (List.length ps + 1) ps.length vs.length (List.length vs + 1) l.length ⟨1, 0, some 0⟩ := by kernel_rfl
end Go.Proofs.YtachglcffimmeaaGreat.Ev
