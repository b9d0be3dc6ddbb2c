/-
  Law.
-/
import Derived.Test.YtachglcffimmeaaGreatQ25
set_option linter.unusedVariables false
set_option linter.unusedSimpArgs false
set_option maxRecDepth 100000
namespace Go.Proofs.YtachglcffimmeaaGreat.Ev
open Go Go.Proofs Go.RowKit
theorem cLX {P : Program} {β : Bs} {ex : Nat → Kt → Prop} {b : Nat} {c : Code} {N : Nat} {F : Nat → AFr} {S : Nat → ASt} {Fx : AFr} {Sx : ASt}
  (hex : ∀ K, ex b K → K (.exit b) Fx Sx)
  (hr : ∀ (k : Nat) (Nx : Kt), k ≤ N → (k < N → ∀ f1 st1, Seen β f1 st1 (F (k + 1)) (S (k + 1)) → Nx .normal f1 st1) → (k = N → Nx (.exit b) Fx Sx) → J P β c (F k) (S k) Nx) : LoopJ P β ex b c (F 0) (S 0) := by
 refine loop_rule (fun k : Nat => k ≤ N) F S (fun k => N - k) (fun k hk K hK => ?_) 0 (Nat.zero_le _)
 exact hr k _ hk (fun hlt f1 st1 hs => .inl ⟨rfl, k + 1, hlt, by omega, hs⟩) (fun he => .inr ⟨by simp, by simp, Fx, Sx, Seen.refl _ _ _, hex K hK⟩)
theorem rwS_eq (a : List U8) : rwS a = a := rowL_enc a _ _ _ _
theorem rbS_eq {a : List U8} {d : Nat} (h : a.all (okA U8) = true) (hl : a.length ≤ 1000000) (hd : d ≤ 1) : rbS a d = true := rowB_of .still rfl rfl h hl hd
theorem lL_eq (l : List U8) (c : Nat) : lL l c = l := listT_z l c
theorem decCap (X : Ms) : (Enc.dec (nthT [Td.sc (.int .i64 X.k), Td.sc (.int .i64 X.id), Td.sc (.int .i64 X.er), Td.sc (.int .i64 X.n), Td.sc (.int .i64 X.sq), Td.sc (.bool X.lo), Td.sc (.int .i64 X.ev), Td.sc (.int .i64 X.bd.k), Td.sc (.int .i64 X.bd.i), Td.sc (.float .f64 X.bd.f), Td.fr 1 X.ps.length 1 fun i => encL X.ps i, Td.fr 3 X.vs.length 1 fun i => encL X.vs i]) : Ms) = capM X := (dE_ (capM X)).1
theorem decSs (x : Ss) : (Enc.dec (nthT [Td.sc (.bool x.on), Td.sc (.int .i64 x.se), Td.fr 1 x.fb.length x.cfb fun i => encL x.fb i, Td.sc (.bool x.ba), Td.fr 12 x.ins.length x.cins fun i => encL x.ins i, Td.fr 12 x.out.length x.cout fun i => encL x.out i, Td.fr 15 x.sub.length x.csub fun i => encL x.sub i, Td.sc (.int .i64 x.num)]) : Ss) = x := (dE_ x).1
theorem decMade (L : List U8) : (Enc.dec (nthT [Td.sc (.bool (decide ((onQ L).1 > 0))), Td.sc (.int .i64 (seP L).1), Td.fr 1 ([] : List U8).length 1 fun i => encL ([] : List U8) i, Td.sc (.bool false), Td.fr 12 (inP L).1.length 1 fun i => encL (inP L).1 i, Td.fr 12 (ouP L).1.length 1 fun i => encL (ouP L).1 i, Td.fr 15 (suP L).1.length 1 fun i => encL (suP L).1 i, Td.sc (.int .i64 0)]) : Ss) = madeS L := (dE_ (madeS L)).1
theorem bAk {a : List U8} (h : a.all (okA U8) = true) (hl : a.length ≤ 1000000) : ∀ k, PkOk a (bsA a k).2 ∧ (bsA a k).1.all (okA U8) = true ∧ (bsA a k).1.length ≤ 206 * k
 | 0 => ⟨⟨h, hl, Int.le_refl _⟩, rfl, Nat.le_refl _⟩
 | k + 1 => by
  obtain ⟨h1, h2, h3⟩ := bAk h hl k
  obtain ⟨b1, b2⟩ := byL_ok (capM (askM a (k : Nat) (bsA a k).2).1)
  refine ⟨askM_ok _ h1, ?_, ?_⟩
  ·show ((bsA a k).1 ++ byL _).all _ = true
   rw [List.all_append, h2, b1]; rfl
  ·show ((bsA a k).1 ++ byL _).length ≤ _
   rw [List.length_append]; omega
theorem sL1 {l a m : List U8} {c d e : Nat} {B : List U8} {A : Ss} {Gd : Ss → Prop} {β : Bs} (hβ : β.X.length = 3) (hB : B = (bsA a 3).1) (h : a.all (okA U8) = true) (hl : a.length ≤ 1000000) (hd : d ≤ 1) :
  LoopJ Tryz.prog β (exX l a m c d e B A Gd) 0 (loopOf Tryz.prog 5 0) (FX1 l m c e (bsA a 0).1 (0 : Nat)) (SX1 l a m d (bsA a 0).1 (bsA a 0).2) := by
 refine cLX (N := 3) (F := fun k => FX1 l m c e (bsA a k).1 (k : Nat)) (S := fun k => SX1 l a m d (bsA a k).1 (bsA a k).2) (Fx := FX1x l m c e B) (Sx := SX1x l a m B) (fun K hK => hK) (fun k Nx hk h1 h2 => ?_)
 refine rJ_ (E := 3) (lvs := lvsX) (un := fun _ => 0) (fuel := 100) (n := 20) (ex := fun _ _ => False) follows toldU1_ok hβ (lv := lvX1) ?_
 rw [vc_sc1_r]
 try dsimp only
 obtain ⟨p1, p2, p3⟩ := bAk h hl k
 refine br_of (fun hlt => ?_) (fun hlt => ?_)
 ·have hlt : k < 3 := by simp at hlt; omega
  have hw : IntKind.wrap .i64 ((k : Int) + 1) = ((k + 1 : Nat) : Int) := w64 (by omega) (by omega)
  obtain ⟨a1, a2⟩ := askM_len (k : Int) p1
  obtain ⟨b1, b2⟩ := byL_ok (capM (askM a (k : Nat) (bsA a k).2).1)
  simp only [Nat.zero_add, rwS_eq, decCap, hw]
  refine nd_ (by rw [rbS_eq h hl hd, h, p1.d]; rfl) (nd_ (by simp) (nd_ (by simp) (nd_ ?_ (nd_ (by simp) (nd_ (Nat.ble_eq_true_of_le (by omega)) (nd_ (by simp) ?_))))))
  ·have : okS1 Ms (fun _ => true) [.agg (encTs (capM (askM a (k : Int) (bsA a k).2).1))] = true := by
    show (Nat.beq (encTs _).length (Enc.es Ms) && Enc.ok Ms (nthT (encTs _)) && true) = true
    rw [eL_, Nat.beq_refl, (dE_ (α := Ms) _).2, capM_ok (by omega) (by omega)]; rfl
   exact this
  ·have hl1 : (bsA a k).1.length + (byL (capM (askM a (k : Nat) (bsA a k).2).1)).length = (bsA a (k + 1)).1.length := by
    show _ = ((bsA a k).1 ++ byL _).length
    rw [List.length_append]
   rw [hl1]
   refine h1 hlt _ _ (Seen.objs rfl fun q o2 h => ?_)
   match q, h with
   | 0, h => cases h; exact ⟨_, rfl, rfl, fun _ _ _ h => h⟩
   | 1, h => cases h; exact ⟨_, rfl, rfl, fun _ _ _ h => h⟩
   | 2, h => cases h; exact ⟨_, rfl, rfl, fun _ _ _ h => h⟩
   | 3, h => cases h; exact ⟨_, rfl, rfl, fun _ _ _ h => h⟩
   | 4, h =>
    cases h
    refine ⟨_, rfl, rfl, fun _ _ _ h => ?_⟩
    rw [← hl1] at h
    exact (((RowU.enc (bsA a k).1).app (RowU.enc (byL (capM (askM a (k : Nat) (bsA a k).2).1)))).to (M := (bsA a (k + 1)).1) rfl rfl).obj _ _ _ h
   | _ + 5, h => cases h
 ·have hkn : k = 3 := by simp at hlt; omega
  subst hkn
  have := h2 rfl
  rw [hB] at this
  exact this
theorem u8_getD {l : List U8} (h : l.all (okA U8) = true) (i : Nat) : 0 ≤ (l.getD i Enc.dflt).v := by
 by_cases hi : i < l.length
 ·exact (all_getU h hi).1
 ·have : l.getD i Enc.dflt = Enc.dflt := by simp [List.getD, hi]
  rw [this]; exact Int.le_refl _
structure ScP where
 i : Nat
 k : Nat
 n : Nat
 cb : Nat
 x : Ss
structure ISc (s : Ss) (B : List U8) (M : Nat) (p : ScP) : Prop where
 i : p.i ≤ M + 1
 kn : p.k + p.n = B.length
 cb : p.cb ≤ 1
 gd : GdS p.x
 fst : p.i = 0 → p.x = s ∧ p.k = 0
 nxt : 0 < p.i → cz p.x = cz (comeF tkMs s (B.take p.k) 50)
 lst : p.i = M + 1 → p.n = 0
theorem oA3 {x : Ss} {b : Td} (hx : okA Ss x = true) (hb : okT U8 b = true) (hp : fitC x (listT U8 b) = true) : okA3 (Sc Ss) (Rw U8) Int (fun s b _ => fitC (Sc.x s) (Rw.l b)) [.agg (encTs x), .cell b, .cell (.sc (.int .i64 50))] = true := by
 show ((Nat.beq (encTs x).length (Enc.es Ss) && Enc.ok Ss (nthT (encTs x))) && okT U8 b && true && fitC (Enc.dec (nthT (encTs x))) (listT U8 b)) = true
 rw [eL_, Nat.beq_refl, (dE_ x).1, (dE_ x).2, hx, hb, hp]; rfl
theorem fdE {l : List U8} (h : l.all (okA U8) = true) : (fd l).2.2 = 2 ∨ (fd l).2.2 = 11 := by
 by_cases h2 : (fd l).2.2 = 11
 ·exact .inr h2
 ·exact .inl (fd_none_of l h h2)
theorem tk_d {α : Type} (l : List α) (k n : Nat) : l.take k ++ (l.drop k).take n = l.take (k + n) := (List.take_add).symm
theorem tkO {l : List U8} (h : l.all (okA U8) = true) (k : Nat) : (l.take k).all (okA U8) = true := by
 rw [List.all_eq_true] at *
 exact fun x hx => h x (List.mem_of_mem_take hx)
theorem sSt {s : Ss} {B : List U8} {M i k n cb nn : Nat} {x : Ss} (hs1 : s.ba = false) (hs2 : s.fb = []) (hB : B.all (okA U8) = true) (hBl : B.length ≤ 100000) (hp : ISc s B M ⟨i, k, n, cb, x⟩) (hi : i ≤ M) (hn : nn ≤ n) (he : i = M → nn = n) (c' : Nat) (hc : c' ≤ 1) :
  ISc s B M ⟨i + 1, k + nn, n - nn, c', comeF tkMs x ((B.drop k).take nn) 50⟩ := by
 obtain ⟨h1, h2, h3, h4, h5, h6, h7⟩ := hp
 have h2 : k + n = B.length := h2
 have h5 : i = 0 → x = s ∧ k = 0 := h5
 have h6 : 0 < i → cz x = cz (comeF tkMs s (B.take k) 50) := h6
 have hm := mid_len B (k := k) (n := nn) (by omega)
 refine ⟨by show i + 1 ≤ _; omega, by show k + nn + (n - nn) = _; omega, hc, come_gd h4 (mid_all hB k nn) (by omega), fun h => ?_, fun _ => ?_, fun h => ?_⟩
 ·exact absurd h (Nat.succ_ne_zero i)
 ·show cz (comeF tkMs x ((B.drop k).take nn) 50) = cz (comeF tkMs s (B.take (k + nn)) 50)
  by_cases h0 : i = 0
  ·obtain ⟨rfl, rfl⟩ := h5 h0
   rw [List.drop_zero, Nat.zero_add]
  ·rw [← tk_d]
   exact come_all hs1 hs2 (fdE (tkO hB k)) (h6 (by omega))
 ·have h : i + 1 = M + 1 := h
  show n - nn = 0
  have := he (by omega)
  omega
theorem sR2 {l a m : List U8} {e : Nat} {B : List U8} {A s : Ss} {β : Bs} (hβ : β.X.length = 3) (hs1 : s.ba = false) (hs2 : s.fb = []) (hB : B.all (okA U8) = true) (hBl : B.length ≤ 100000) (hm : m.length ≤ 20) (hmo : m.all (okA U8) = true) (K : Kt)
  (hK : ∀ x : Ss, (cz x = cz (comeF tkMs s B 50) ∧ GdS x) → K (.exit 2) FX2x (SX2x l a m A x)) (p : ScP) (hp : ISc s B m.length p) :
  J Tryz.prog β (loopOf Tryz.prog 5 2) (FX2 m e p.k p.n p.cb (p.i : Nat)) (SX2 l a m B A p.x) (Nn β (ISc s B m.length) (fun p => m.length + 1 - p.i) (fun p => FX2 m e p.k p.n p.cb (p.i : Nat)) (fun p => SX2 l a m B A p.x) p K) := by
 obtain ⟨i, k, n, cb, x⟩ := p
 have hg : ∀ N : Kt, roundJ Tryz.prog toldU1 100 20 β (fun _ => 0) (cnOf 3 lvsX) (fun _ _ => False) 5 2 3 lvX2 (FX2 m e k n cb (i : Nat)) (SX2 l a m B A x) N → J Tryz.prog β (loopOf Tryz.prog 5 2) (FX2 m e k n cb (i : Nat)) (SX2 l a m B A x) N := fun N h => rJ_ follows toldU1_ok hβ h
 refine hg _ ?_
 rw [vc_sc2_r]
 try dsimp only
 have h1 : i ≤ m.length + 1 := hp.i
 have h2 : k + n = B.length := hp.kn
 have h3 : cb ≤ 1 := hp.cb
 have h4 : GdS x := hp.gd
 have hw : IntKind.wrap .i64 ((i : Int) + 1) = ((i + 1 : Nat) : Int) := w64 (by omega) (by omega)
 have b0 : Nat.ble 0 (k + 0) = true := by simp
 by_cases hi : i ≤ m.length
 ·have c1 : decide ((i : Int) ≤ Int.ofNat m.length) = true := by simpa using hi
  have key : ∀ (nn c' : Nat), nn ≤ n → (i = m.length → nn = n) → c' ≤ 1 → ∀ f st, Seen β f st (FX2 m e (k + nn) (n - nn) c' ((i + 1 : Nat) : Int)) (SX2 l a m B A (comeF tkMs x ((B.drop k).take nn) 50)) → Nn β (ISc s B m.length) (fun p => m.length + 1 - p.i) (fun p => FX2 m e p.k p.n p.cb (p.i : Nat)) (fun p => SX2 l a m B A p.x) ⟨i, k, n, cb, x⟩ K .normal f st := fun nn c' hn he hc f st hsn =>
   Nn.next (I := ISc s B m.length) (m := fun p : ScP => m.length + 1 - p.i) (F := fun p : ScP => FX2 m e p.k p.n p.cb (p.i : Nat)) (S := fun p : ScP => SX2 l a m B A p.x) (p := ⟨i, k, n, cb, x⟩) ⟨i + 1, k + nn, n - nn, c', comeF tkMs x ((B.drop k).take nn) 50⟩ (sSt hs1 hs2 hB hBl hp hi hn he c' hc) (by show m.length + 1 - (i + 1) < m.length + 1 - i; omega) hsn
  have okk : ∀ (nn c' : Nat), nn ≤ n → c' ≤ 1 → okA3 (Sc Ss) (Rw U8) Int (fun s b _ => fitC (Sc.x s) (Rw.l b)) [.agg (encTs x), .cell (Td.fr 1 nn c' fun j => encL B (k + j)), .cell (.sc (.int .i64 50))] = true := fun nn c' hn hc => by
   have hml := mid_len B (k := k) (n := nn) (by omega)
   refine oA3 h4.ok (okT_mid hB (by omega) (by omega) hc) ?_
   rw [listU_mid B c' (by omega)]
   exact h4.fitC (mid_all hB k nn) (by omega)
  have hx : (bif Nat.beq n 0 then cb else 0) ≤ 1 := by cases Nat.beq n 0 <;> simp <;> omega
  by_cases hi2 : i < m.length
  ·have c2 : decide ((i : Int) < Int.ofNat m.length) = true := by simpa using hi2
   have i1 : decide ((0 : Int) ≤ (i : Int)) = true := by simp
   have i2 : Int.toNat (i : Int) = i := Int.toNat_natCast i
   have i3 : Nat.blt i m.length = true := by simpa using hi2
   have i4 : Nat.ble 0 i = true := by simp
   have hv : ∃ v : Nat, IntKind.wrap .i64 (Int.tmod (U8.v (List.getD m i Enc.dflt)) 40) = (v : Int) := by
    have hv := u8_getD hmo i
    refine ⟨(Int.tmod (U8.v (List.getD m i Enc.dflt)) 40).toNat, ?_⟩
    have hlt : Int.tmod (U8.v (List.getD m i Enc.dflt)) 40 < 40 := Int.tmod_lt_of_pos _ (by omega)
    have hge : 0 ≤ Int.tmod (U8.v (List.getD m i Enc.dflt)) 40 := Int.tmod_nonneg _ hv
    rw [w64 (by omega) (by omega)]; omega
   obtain ⟨v, hv⟩ := hv
   have hE : (if Int.ofNat n < (v : Int) then Int.ofNat n else (v : Int)) = ((min v n : Nat) : Int) := by
    rw [Int.ofNat_eq_natCast]
    split <;> omega
   have hnl : min v n ≤ n := Nat.min_le_right v n
   generalize hnn : min v n = nn at *
   have e0 : Int.toNat (nn : Int) = nn := Int.toNat_natCast nn
   have e1 : decide ((0 : Int) ≤ (nn : Int)) = true := by simp
   have e2 : Nat.ble nn n = true := Nat.ble_eq_true_of_le hnl
   have e3 : Nat.ble (k + 0 + (nn - 0)) B.length = true := Nat.ble_eq_true_of_le (by omega)
   simp only [Nat.zero_add, hw, c1, c2, i1, i2, i3, i4, hv, hE, e0, e1, e2, br_t, need_t, Bool.true_and, bleS, b0, e3]
   refine nd_ (okk nn _ hnl hx) ?_
   refine key nn _ hnl (fun h => by omega) hx _ _ ?_
   have hL := listU_mid B (bif Nat.beq n 0 then cb else 0) (k := k) (n := nn) (by omega)
   simp only [Nat.add_zero, Nat.sub_zero, decSs, hL]
   exact Seen.refl _ _ _
  ·have c2 : decide ((i : Int) < Int.ofNat m.length) = false := by simpa using hi2
   have e0 : Int.toNat (Int.ofNat n) = n := Int.toNat_natCast n
   have e2 : Nat.ble n n = true := bleS n
   have e3 : Nat.ble (k + 0 + (n - 0)) B.length = true := Nat.ble_eq_true_of_le (by omega)
   simp only [Nat.zero_add, hw, c1, c2, e0, e2, br_t, br_f, need_t, Bool.true_and, bleS, b0, e3]
   refine nd_ (okk n _ (Nat.le_refl _) hx) ?_
   have hL := listU_mid B (bif Nat.beq n 0 then cb else 0) (k := k) (n := n) (by omega)
   refine key n _ (Nat.le_refl _) (fun _ => rfl) hx _ _ ?_
   simp only [Nat.add_zero, Nat.sub_zero, decSs, hL]
   exact Seen.refl _ _ _
 ·have c1 : decide ((i : Int) ≤ Int.ofNat m.length) = false := by simpa using hi
  simp only [c1, br_f]
  have hn0 : n = 0 := hp.lst (by show i = _; omega)
  have hnx : cz x = cz (comeF tkMs s (B.take k) 50) := hp.nxt (by show 0 < i; omega)
  rw [show B.take k = B from List.take_of_length_le (by omega)] at hnx
  exact Nn.exit (Seen.refl _ _ _) (hK x ⟨hnx, h4⟩)
theorem sc_law {l a m : List U8} {c d e : Nat} (hc : c ≤ 1) (hd : d ≤ 1) (he : e ≤ 1) (hl : l.all (okA U8) = true) (ha : a.all (okA U8) = true) (hm : m.all (okA U8) = true) (w : World) (args' : Array Value) (hA : PW (TR w (There w)) [tdL l c, tdL a d, tdL m e] args'.toList) :
  Calls Tryz.prog 5 args' w fun e w' => e = .returned (.bool true) ∧ Below w.heap.size w w' := by
 refine law_top (C := toldU1) (fuel := 100) (n := 20) (un := fun _ => 0) (lvs := lvsX) (ex := exX l a m c d e (bsA a 3).1 (comeF tkMs (madeS l) (bsA a 3).1 50) (fun x => cz x = cz (comeF tkMs (madeS l) (bsA a 3).1 50) ∧ GdS x)) follows toldU1_ok (fun β hβ => ?_) w args' hA
 show lawE _ _ _ _ _ _ (cnOf 3 lvsX) _ _ [.slice (some ⟨0, 0, some 0⟩) l.length c, .slice (some ⟨1, 0, some 0⟩) a.length d, .slice (some ⟨2, 0, some 0⟩) m.length e] (mkS (SX0 l a m)) trueE
 rw [vc_sc]
 refine br_of (fun _ => trivial) (fun q1 => br_of (fun _ => trivial) (fun q2 => br_of (fun _ => trivial) (fun q3 => ?_)))
 have l60 : l.length ≤ 60 := by simp at q1; omega
 have l40 : a.length ≤ 40 := by simp at q2; omega
 have l20 : m.length ≤ 20 := by simp at q3; omega
 obtain ⟨b1, b2, b3⟩ := bAk ha (show a.length ≤ 1000000 by omega) 3
 have hl1 := sL1 (l := l) (m := m) (c := c) (e := e) (B := (bsA a 3).1) (A := comeF tkMs (madeS l) (bsA a 3).1 50) (Gd := fun x => cz x = cz (comeF tkMs (madeS l) (bsA a 3).1 50) ∧ GdS x) (β := β) hβ rfl ha (show a.length ≤ 1000000 by omega) hd
 have gm := made_gd hl (show l.length ≤ 1000000 by omega)
 generalize (bsA a 3).1 = B at *
 have gA := come_gd (now := 50) gm b2 (show B.length ≤ 100000 by omega)
 have hk := oA3 gm.ok (okT_enc (c := 1) b2 (by omega) (Nat.le_refl _)) (by rw [lU]; exact gm.fitC b2 (by omega))
 have o1 : okA1 (Rw U8) (fun r => List.all (Rw.l r) (okA U8)) [Ta.cell (Td.fr 1 (List.length l) c fun i => encL l i)] = true := okA1_rw hl (by omega) hc hl
 simp only [Nat.zero_add, lL_eq, decMade, lU, bleS, Bool.true_and, need_t, o1]
 refine ⟨LoopJ.seen (f1 := FX1 l m c e [] ((0 : Nat) : Int)) (st1 := SX1 l a m d [] 0) (Seen.nilSlot 8 1 (encL ([] : List U8)) rfl rfl rfl fun t v h => ?_) hl1, nd_ hk ⟨?_, fun x hx => ?_⟩⟩
 ·rcases mkFT_get _ _ t v h with h1 | h1
  ·simp at h1
   rcases h1 with ⟨rfl, rfl⟩ | ⟨rfl, rfl⟩ | ⟨rfl, rfl⟩ | ⟨rfl, rfl⟩ | ⟨rfl, rfl⟩
   ·exact .inr rfl
   ·exact .inr rfl
   ·exact .inr rfl
   ·exact .inl ⟨rfl, rfl⟩
   ·exact .inr rfl
  ·cases h1
 ·exact loop_rule (ISc (madeS l) B m.length) (fun p => FX2 m e p.k p.n p.cb (p.i : Nat)) (fun p => SX2 l a m B (comeF tkMs (madeS l) B 50) p.x) (fun p => m.length + 1 - p.i) (fun p hp K hK => sR2 hβ rfl rfl b2 (by omega) l20 hm K hK p hp) ⟨0, 0, B.length, 1, madeS l⟩ ⟨Nat.zero_le _, Nat.zero_add _, Nat.le_refl _, gm, fun _ => ⟨rfl, rfl⟩, fun h => absurd h (Nat.lt_irrefl 0), fun h => absurd h (by show ¬ 0 = m.length + 1; omega)⟩
 ·obtain ⟨h1, h2⟩ := hx
  generalize comeF tkMs (madeS l) B 50 = A at *
  have ok2 : okA2 (Sc Ss) (Sc Ss) (fun _ _ => true) [.agg (encTs A), .agg (encTs x)] = true := by
   rw [okA2_sc, gA.ok, h2.ok]; rfl
  refine nd_ ok2 ?_
  rw [decSs, decSs]
  exact nd_ (sameSs_cz h1.symm) trivial
end Go.Proofs.YtachglcffimmeaaGreat.Ev
