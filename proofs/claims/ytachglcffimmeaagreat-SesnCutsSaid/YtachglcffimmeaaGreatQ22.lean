/-
  What has to hold: printed by the evaluator.
-/
import Derived.Test.YtachglcffimmeaaGreatQ21
import Derived.Test.YtachglcffimmeaaGreatQ16
import Derived.Test.YtachglcffimmeaaGreatQ20
set_option linter.unusedVariables false
set_option maxRecDepth 1000000
set_option linter.unusedSimpArgs false
namespace Go.Proofs.YtachglcffimmeaaGreat.Ev
open Go Go.Proofs Go.RowKit
def slMe : List Nat := [2, 5, 6, 7]
def FMe (l out : List Ms) (c : Nat) (k : Int) : AFr := mkF 18 [(2, .slice (some ⟨1, 0, some 0⟩) out.length 1), (5, .slice (some ⟨0, 0, some 0⟩) l.length c), (6, .int .i64 l.length), (7, .int .i64 k)]
def SMe (l out : List Ms) : ASt := mkS [some (rowO .look l), some (rowO .mine out)]
def exMe (l : List Ms) (c : Nat) : Nat → Kt → Prop := fun b K => K (.exit b) (FMe l l c l.length) (SMe l l)
theorem vc_me (l : List Ms) (c : Nat) (β : Bs) (K : AE → List (Option AObj) → Prop) : lawE Tryz.prog toldM6 100 20 β (fun _ => 0) (cnOf 1 fun _ => slMe) (exMe l c) 48 [.slice (some ⟨0, 0, some 0⟩) l.length c] (mkS [some (rowO .look l)]) (outC 1 K) =
 (fun (z0 : Nat) => ((fun (z1 : AObj) => (LoopJ Tryz.prog β (exMe l c) 0 (loopOf Tryz.prog 48 0) (mkF 18 [(2, .slice none 0 0), (5, .slice (some ⟨0, 0, some 0⟩) z0 c), (6, .int .i64 (Int.ofNat z0)), (7, .int .i64 (0 : Int))]) (mkS [some z1]) ∧ K (.returned (.slice (some ⟨1, 0, some 0⟩) z0 1)) [some z1, some (.row .mine 12 0 z0 (encL l))])) (.row .look 12 0 z0 (encL l)))) l.length := by kernel_rfl
theorem vc_me_r (l out : List Ms) (c : Nat) (k : Int) (β : Bs) (Nx : Kt) : roundJ Tryz.prog toldM6 100 20 β (fun _ => 0) (cnOf 1 fun _ => slMe) (fun _ _ => False) 48 0 1 (fun _ => slMe) (FMe l out c k) (SMe l out) Nx =
 (fun (z1 z6 z7 z9 : Nat) => ((fun (z0 : Ms) (z8 : AObj) => ((fun (z4 z5 : Nat) => ((fun (z2 z3 : Bool) => (br (decide (k < Int.ofNat z1)) (need (decide ((0 : Int) ≤ k)) (need (Nat.blt (Int.toNat k) z1) (need (Nat.ble 0 z9 && Nat.blt z9 z1) (need z2 (need (okC 1 [Ta.cell (.fr 1 z4 (Ms.cps z0) fun i => encL (Ms.ps z0) (0 + i))]) (need z3 (need (okC 3 [Ta.cell (.fr 3 z5 (Ms.cvs z0) fun i => encL (Ms.vs z0) (0 + i))]) (need z2 (need z3 (need (Nat.ble z7 1000000) (need (true && Nat.ble (0 + List.length out) z6) (Nx .normal (mkF 18 [(2, .slice (some ⟨1, 0, some 0⟩) z7 1), (5, .slice (some ⟨0, 0, some 0⟩) z1 c), (6, .int .i64 (Int.ofNat z1)), (7, .int .i64 (IntKind.wrap .i64 (k + (1 : Int))))]) (mkS [some z8, some (.row .mine 12 0 z7 fun j k_1 => mrgT (Nat.blt j z6) (encL out (0 + j) k_1) (selT 12 1 [.sc (.int .i64 (Ms.k z0)), .sc (.int .i64 (Ms.id z0)), .sc (.int .i64 (Ms.er z0)), .sc (.int .i64 (Ms.n z0)), .sc (.int .i64 (Ms.sq z0)), .sc (.bool (Ms.lo z0)), .sc (.int .i64 (Ms.ev z0)), .sc (.int .i64 (Vl.k (Ms.bd z0))), .sc (.int .i64 (Vl.i (Ms.bd z0))), .sc (.float .f64 (Vl.f (Ms.bd z0))), .fr 1 z4 (Ms.cps z0) fun i => encL (Ms.ps z0) (0 + (0 + i)), .fr 3 z5 (Ms.cvs z0) fun i => encL (Ms.vs z0) (0 + (0 + i))] (j - List.length out) k_1))]))))))))))))) (Nx (.exit 0) (mkF 18 [(2, .slice (some ⟨1, 0, some 0⟩) z6 1), (5, .slice (some ⟨0, 0, some 0⟩) z1 c), (6, .int .i64 (Int.ofNat z1)), (7, .int .i64 k)]) (mkS [some z8, some (.row .mine 12 0 z6 (encL out))])))) (true && Nat.ble (0 + List.length (Ms.ps z0)) z4) (true && Nat.ble (0 + List.length (Ms.vs z0)) z5))) (List.length (Ms.ps z0)) (List.length (Ms.vs z0)))) (List.getD l z9 Enc.dflt) (.row .look 12 0 z1 (encL l)))) l.length out.length (List.length out + 1) (0 + Int.toNat k) := by kernel_rfl
theorem get_appU {l m : List U8} {i : Nat} (h : i < l.length) : (l ++ m).getD i Enc.dflt = l.getD i Enc.dflt := getD_app_lt l m _ h
theorem lenU_app {l m : List U8} (h : 2 ≤ l.length) : lenU (l ++ m) = lenU l := by
 unfold lenU; rw [get_appU (by omega), get_appU (by omega)]
theorem midU_app {l m : List U8} (h : 2 + lenU l ≤ l.length) : midU (l ++ m) = midU l := by
 unfold midU
 rw [lenU_app (by omega), List.drop_append_of_le_length (by omega), List.take_append_of_le_length (by simp; omega)]
theorem tkE_app {l m : List U8} (h : tkE l ≠ 11) : tkE (l ++ m) = tkE l := by
 unfold tkE at h ⊢
 by_cases h1 : l.length < 2
 ·rw [if_pos h1] at h; exact absurd rfl h
 ·rw [if_neg h1] at h
  have h1' : ¬ (l ++ m).length < 2 := by rw [List.length_append]; omega
  rw [if_neg h1, if_neg h1', lenU_app (by omega)]
  by_cases h2 : 200 < lenU l
  ·rw [if_pos h2, if_pos h2]
  ·rw [if_neg h2] at h
   rw [if_neg h2, if_neg h2]
   by_cases h3 : l.length < lenU l + 6
   ·rw [if_pos h3] at h; exact absurd rfl h
   ·have h3' : ¬ (l ++ m).length < lenU l + 6 := by rw [List.length_append]; omega
    rw [if_neg h3, if_neg h3', midU_app (by omega), List.take_append_of_le_length (by omega)]
def FdApp (l : List U8) : Prop := ∀ m, ((fd l).2.2 = 11 → fd (l ++ m) = ((fd l).1 ++ (fd ((fd l).2.1 ++ m)).1, (fd ((fd l).2.1 ++ m)).2)) ∧ ((fd l).2.2 ≠ 11 → (fd (l ++ m)).1 = (fd l).1 ∧ (fd (l ++ m)).2.2 = (fd l).2.2)
theorem fd_app : ∀ l : List U8, FdApp l := by
 refine fd_ind FdApp (fun l h m => ?_) (fun l h ih m => ?_)
 ·rw [fd_stop h]
  refine ⟨fun h2 => by simp, fun h2 => ?_⟩
  have h2 : tkE l ≠ 11 := h2
  have e := tkE_app (m := m) h2
  rw [fd_stop (by rw [e]; exact h)]
  exact ⟨rfl, e⟩
 ·have h6 := tkE_len h
  have e : tkE (l ++ m) = 0 := by rw [tkE_app (by omega), h]
  have e1 := fd_go e
  have e2 := fd_go h
  rw [lenU_app (by omega), midU_app (by omega), List.drop_append_of_le_length (by omega)] at e1
  rw [e1, e2]
  obtain ⟨i1, i2⟩ := ih m
  refine ⟨fun h2 => ?_, fun h2 => ?_⟩
  ·rw [i1 h2]; rfl
  ·obtain ⟨j1, j2⟩ := i2 h2
   exact ⟨by show _ :: _ = _ :: _; rw [j1], j2⟩
theorem fd_none_of (l : List U8) (h : l.all (okA U8) = true) : (fd l).2.2 ≠ 11 → (fd l).2.2 = 2 := fun h2 => by
 have := fd_ok l h
 exact this.2.2.2.2.1.resolve_right h2
theorem okFd_of {a b : Td} {q : Bool} (h1 : okT U8 a = true) (h2 : (listT U8 a).all (okA U8) = true) (h3 : okT U8 b = true) (h4 : (listT U8 b).all (okA U8) = true) (h5 : (listT U8 a).length + (listT U8 b).length ≤ 1000000) : okFd [Ta.agg [a, .sc (.bool q)], Ta.cell b] = true := by
 show (okT U8 a && (listT U8 a).all (okA U8) && true && (okT U8 b && (listT U8 b).all (okA U8)) && Nat.ble ((listT U8 a).length + (listT U8 b).length) 1000000) = true
 rw [h1, h2, h3, h4, Nat.ble_eq_true_of_le h5]; rfl
theorem okT_enc {l : List U8} {c : Nat} (h : l.all (okA U8) = true) (hl : l.length ≤ 1000000) (hc : c ≤ 1) : okT U8 (Td.fr 1 l.length c (encL l)) = true := okT_tdL h hl hc
theorem fdQ_bad {l m : List U8} (h : (fd (l ++ m)).2.2 = 2) : fdQ false l m = true := by show Nat.beq (fd (l ++ m)).2.2 2 = true; rw [h]; rfl
theorem fdB_bad {l m : List U8} (h : (fd (l ++ m)).2.2 = 2) : fdB false l m = [] := by show cond (Nat.beq (fd (l ++ m)).2.2 2) _ _ = []; rw [h]; rfl
theorem fdQ_none {l m : List U8} (h : (fd (l ++ m)).2.2 = 11) : fdQ false l m = false := by show Nat.beq (fd (l ++ m)).2.2 2 = false; rw [h]; rfl
theorem fdB_none {l m : List U8} (h : (fd (l ++ m)).2.2 = 11) : fdB false l m = (fd (l ++ m)).2.1 := by show cond (Nat.beq (fd (l ++ m)).2.2 2) _ _ = _; rw [h]; rfl
theorem fd_two (A M : List U8) (hA : (fd A).2.2 = 2 ∨ (fd A).2.2 = 11) : fdQ (fdQ false [] A) (fdB false [] A) M = fdQ false [] (A ++ M) ∧ fdB (fdQ false [] A) (fdB false [] A) M = fdB false [] (A ++ M) ∧ fdL false [] A ++ fdL (fdQ false [] A) (fdB false [] A) M = fdL false [] (A ++ M) := by
 obtain ⟨h1, h2⟩ := fd_app A M
 have en : ∀ l : List U8, [] ++ l = l := fun l => rfl
 rcases hA with hA | hA
 ·obtain ⟨e1, e2⟩ := h2 (by omega)
  have q1 : fdQ false [] A = true := fdQ_bad (by rw [en]; exact hA)
  have b1 : fdB false [] A = [] := fdB_bad (by rw [en]; exact hA)
  rw [q1, b1]
  have hAM : (fd ([] ++ (A ++ M))).2.2 = 2 := by rw [en, e2]; exact hA
  refine ⟨(fdQ_bad hAM).symm, (fdB_bad hAM).symm, ?_⟩
  show (fd ([] ++ A)).1 ++ [] = (fd ([] ++ (A ++ M))).1
  rw [en, en, e1]; simp
 ·have e := h1 hA
  have q1 : fdQ false [] A = false := fdQ_none (by rw [en]; exact hA)
  have b1 : fdB false [] A = (fd A).2.1 := fdB_none (by rw [en]; exact hA)
  rw [q1, b1]
  have e2 : (fd (A ++ M)).2 = (fd ((fd A).2.1 ++ M)).2 := by rw [e]
  refine ⟨?_, ?_, ?_⟩
  ·show Nat.beq (fd ((fd A).2.1 ++ M)).2.2 2 = Nat.beq (fd ([] ++ (A ++ M))).2.2 2
   rw [en, e2]
  ·show cond (Nat.beq (fd ((fd A).2.1 ++ M)).2.2 2) [] (fd ((fd A).2.1 ++ M)).2.1 = cond (Nat.beq (fd ([] ++ (A ++ M))).2.2 2) [] (fd ([] ++ (A ++ M))).2.1
   rw [en, e2]
  ·show (fd ([] ++ A)).1 ++ (fd ((fd A).2.1 ++ M)).1 = (fd ([] ++ (A ++ M))).1
   rw [en, en, e]
theorem fd_good {q : Bool} {X M : List U8} (hX : X.all (okA U8) = true) (hM : M.all (okA U8) = true) (hXl : X.length ≤ 205) :
  (fdB q X M).all (okA U8) = true ∧ (fdB q X M).length ≤ 205 ∧ (fdL q X M).all (okA Ld) = true ∧ (fdL q X M).length ≤ X.length + M.length := by
 cases q with
 | true => exact ⟨hX, hXl, rfl, Nat.zero_le _⟩
 | false =>
  have hXM : (X ++ M).all (okA U8) = true := by rw [List.all_append, hX, hM]; rfl
  obtain ⟨f1, f2, f3, f4, f5, f6⟩ := fd_ok (X ++ M) hXM
  rw [List.length_append] at f4
  rcases f5 with h | h
  ·rw [fdB_bad h]
   exact ⟨rfl, by simp, f1, f4⟩
  ·rw [fdB_none h]
   exact ⟨f2, f6 h, f1, f4⟩
theorem fdC_le {q : Bool} {X M : List U8} {c : Nat} (hc : c ≤ 1) : fdC q X c M ≤ 1 := by
 unfold fdC
 cases q with
 | true => exact hc
 | false =>
  show cond _ 1 (c0Fd _) ≤ 1
  cases Nat.beq (fd (X ++ M)).2.2 2 with
  | true => exact Nat.le_refl _
  | false => show c0Fd _ ≤ 1; unfold c0Fd; split <;> omega
def nrm (s : Ss) : Ss := ⟨s.on, s.se, s.fb, s.cfb, s.ba, s.ins, 1, s.out, 1, s.sub, s.csub, s.num⟩
def cz (s : Ss) : Ss := ⟨s.on, s.se, s.fb, 1, s.ba, s.ins, 1, s.out, 1, s.sub, 1, s.num⟩
def loadsM (tk : List U8 → Option Ms) : List Ld → Option (List Ms)
 | [] => some []
 | a :: ls => match tk a.l with
  | none => none
  | some m => match loadsM tk ls with
   | none => none
   | some ms => some (m :: ms)
theorem loadsM_app (tk : List U8 → Option Ms) : ∀ xs ys : List Ld, loadsM tk (xs ++ ys) = match loadsM tk xs with
  | none => none
  | some a => match loadsM tk ys with
   | none => none
   | some b => some (a ++ b)
 | [], ys => by
  show loadsM tk ys = _
  simp only [loadsM]
  cases loadsM tk ys <;> rfl
 | x :: xs, ys => by
  show (match tk x.l with
  | none => none
  | some m => match loadsM tk (xs ++ ys) with
   | none => none
   | some ms => some (m :: ms)) = _
  rw [loadsM_app tk xs ys]
  simp only [loadsM]
  cases tk x.l with
  | none => rfl
  | some m =>
   cases loadsM tk xs with
   | none => rfl
   | some a => cases loadsM tk ys <;> rfl
def comeF (tk : List U8 → Option Ms) (s : Ss) (b : List U8) (now : Int) : Ss := cond s.on (match loadsM tk (fdL s.ba s.fb b) with
 | none => zSs
 | some ms => cond (fdQ s.ba s.fb b || decide (6 < s.ins.length + ms.length)) zSs ⟨true, now, fdB s.ba s.fb b, fdC s.ba s.fb s.cfb b, false, s.ins ++ ms, 1, s.out, 1, s.sub, s.csub, s.num⟩) (nrm s)
theorem comeF_off {tk : List U8 → Option Ms} {s : Ss} {b : List U8} {now : Int} (h : s.on = false) : comeF tk s b now = nrm s := by
 unfold comeF; rw [h]; rfl
theorem comeF_zero {tk : List U8 → Option Ms} {b : List U8} {now : Int} : comeF tk zSs b now = zSs := rfl
theorem come_two {tk : List U8 → Option Ms} {s : Ss} {A M : List U8} {now : Int} (h1 : s.ba = false) (h2 : s.fb = []) (hA : (fd A).2.2 = 2 ∨ (fd A).2.2 = 11) :
  cz (comeF tk (comeF tk s A now) M now) = cz (comeF tk s (A ++ M) now) := by
 obtain ⟨q1, q2, q3⟩ := fd_two A M hA
 cases hon : s.on with
 | false =>
  rw [comeF_off hon, comeF_off hon, comeF_off (s := nrm s) hon]
  rfl
 | true =>
  have e1 : comeF tk s A now = match loadsM tk (fdL false [] A) with
   | none => zSs
   | some ms => cond (fdQ false [] A || decide (6 < s.ins.length + ms.length)) zSs ⟨true, now, fdB false [] A, fdC false [] s.cfb A, false, s.ins ++ ms, 1, s.out, 1, s.sub, s.csub, s.num⟩ := by
   unfold comeF; rw [hon, h1, h2]; rfl
  have e2 : comeF tk s (A ++ M) now = match loadsM tk (fdL false [] A ++ fdL (fdQ false [] A) (fdB false [] A) M) with
   | none => zSs
   | some ms => cond (fdQ (fdQ false [] A) (fdB false [] A) M || decide (6 < s.ins.length + ms.length)) zSs ⟨true, now, fdB (fdQ false [] A) (fdB false [] A) M, fdC false [] s.cfb (A ++ M), false, s.ins ++ ms, 1, s.out, 1, s.sub, s.csub, s.num⟩ := by
   unfold comeF; rw [hon, h1, h2, q1, q2, q3]; rfl
  rw [e1, e2, loadsM_app]
  cases hL : loadsM tk (fdL false [] A) with
  | none => rfl
  | some ms =>
   simp only
   cases hq : fdQ false [] A with
   | true =>
    simp only [Bool.true_or, cond_true]
    rw [comeF_zero]
    have hq2 : fdQ true (fdB false [] A) M = true := rfl
    cases loadsM tk (fdL true (fdB false [] A) M) with
    | none => rfl
    | some ms2 => simp only [hq2, Bool.true_or, cond_true]
   | false =>
    simp only [Bool.false_or]
    cases hd : decide (6 < s.ins.length + ms.length) with
    | true =>
     simp only [cond_true]
     rw [comeF_zero]
     cases loadsM tk (fdL false (fdB false [] A) M) with
     | none => rfl
     | some ms2 =>
      have : decide (6 < s.ins.length + (ms ++ ms2).length) = true := by
       have := of_decide_eq_true hd
       rw [List.length_append]
       exact decide_eq_true (by omega)
      simp only [this, Bool.or_true, cond_true]
    | false =>
     simp only [cond_false]
     have e3 : comeF tk ⟨true, now, fdB false [] A, fdC false [] s.cfb A, false, s.ins ++ ms, 1, s.out, 1, s.sub, s.csub, s.num⟩ M now = match loadsM tk (fdL false (fdB false [] A) M) with
      | none => zSs
      | some ms2 => cond (fdQ false (fdB false [] A) M || decide (6 < (s.ins ++ ms).length + ms2.length)) zSs ⟨true, now, fdB false (fdB false [] A) M, fdC false (fdB false [] A) (fdC false [] s.cfb A) M, false, (s.ins ++ ms) ++ ms2, 1, s.out, 1, s.sub, s.csub, s.num⟩ := rfl
     rw [e3]
     cases loadsM tk (fdL false (fdB false [] A) M) with
     | none => rfl
     | some ms2 =>
      simp only [List.length_append, List.append_assoc, Nat.add_assoc]
      cases fdQ false (fdB false [] A) M || decide (6 < s.ins.length + (ms.length + ms2.length)) with
      | true => rfl
      | false => rfl
theorem come_cz {tk : List U8 → Option Ms} {s t : Ss} {b : List U8} {now : Int} (h : cz s = cz t) : cz (comeF tk s b now) = cz (comeF tk t b now) := by
 obtain ⟨a1, a2, a3, a4, a5, a6, a7, a8, a9, a10, a11, a12⟩ := s
 obtain ⟨b1, b2, b3, b4, b5, b6, b7, b8, b9, b10, b11, b12⟩ := t
 simp only [cz, Ss.mk.injEq] at h
 obtain ⟨rfl, rfl, rfl, _, rfl, rfl, _, rfl, _, rfl, _, rfl⟩ := h
 unfold comeF
 cases a1 with
 | false => rfl
 | true =>
  simp only [cond_true]
  cases loadsM tk (fdL a5 a3 b) with
  | none => rfl
  | some ms =>
   simp only
   cases fdQ a5 a3 b || decide (6 < a6.length + ms.length) <;> rfl
theorem come_all {tk : List U8 → Option Ms} {s x : Ss} {A M : List U8} {now : Int} (h1 : s.ba = false) (h2 : s.fb = []) (hA : (fd A).2.2 = 2 ∨ (fd A).2.2 = 11) (hx : cz x = cz (comeF tk s A now)) : cz (comeF tk x M now) = cz (comeF tk s (A ++ M) now) :=
 (come_cz hx).trans (come_two h1 h2 hA)
theorem take_snoc {α : Type} [Enc α] (l : List α) {k : Nat} (h : k < l.length) : l.take (k + 1) = l.take k ++ [l.getD k Enc.dflt] := by
 rw [List.take_add_one, List.getElem?_eq_getElem h]
 simp [List.getD, h]
theorem all_getA {α : Type} [Enc α] {l : List α} (h : l.all (okA α) = true) {k : Nat} (hk : k < l.length) : okA α (l.getD k Enc.dflt) = true := by
 rw [List.all_eq_true] at h
 have : l.getD k Enc.dflt = l[k] := by simp [List.getD, hk]
 rw [this]
 exact h _ (List.getElem_mem hk)
theorem okC_enc {α : Type} [Enc α] {l : List α} {c : Nat} (h : l.length ≤ 1000000) (hc : c ≤ 1) {es : Nat} (hes : es = Enc.es α) {g : Nat → Nat → Td} : okC es [.cell (.fr es l.length c g)] = true := by
 simp only [okC, Nat.beq_refl, Bool.true_or, Bool.true_and, Nat.ble_eq_true_of_le h, Nat.ble_eq_true_of_le hc]
theorem me_loop {l : List Ms} {c : Nat} {β : Bs} (hβ : β.X.length = 1) (hl : l.length ≤ 1000000 - 1) (hok : l.all (okA Ms) = true) : LoopJ Tryz.prog β (exMe l c) 0 (loopOf Tryz.prog 48 0) (FMe l [] c (0 : Nat)) (SMe l []) := by
 refine cnt_loop (N := l.length) (F := fun k => FMe l (l.take k) c (k : Nat)) (S := fun k => SMe l (l.take k)) (fun K hK => ?_) (fun k Nx hk h1 h2 => ?_)
 ·show K (.exit 0) (FMe l (l.take l.length) c (l.length : Nat)) (SMe l (l.take l.length))
  rw [List.take_length]; exact hK
 refine rJ_ (E := 1) (lvs := fun _ => slMe) (un := fun _ => 0) (fuel := 100) (n := 20) (ex := fun _ _ => False) follows toldM6_ok hβ (lv := fun _ => slMe) ?_
 rw [vc_me_r]
 try dsimp only
 have e0 : Int.toNat (k : Int) = k := Int.toNat_natCast k
 rw [e0, Nat.zero_add]
 refine br_of (fun hlt => ?_) (fun hlt => ?_)
 ·have hlt : k < l.length := by simpa using hlt
  have hw : IntKind.wrap .i64 ((k : Int) + 1) = ((k + 1 : Nat) : Int) := w64 (by omega) (by omega)
  obtain ⟨a1, a2, a3, a4⟩ := oMa (all_getA hok hlt)
  have ht := take_snoc l hlt
  have hlen : (l.take k).length = k := by rw [List.length_take]; omega
  have hlen1 : (l.take (k + 1)).length = (l.take k).length + 1 := by rw [ht]; simp
  rw [hw]
  refine nd_ (by simp) (nd_ (by simpa using hlt) (nd_ (by simpa using hlt) (nd_ (by simp) (nd_ (okC_enc a1 a2 rfl) (nd_ (by simp) (nd_ (okC_enc a3 a4 rfl) (nd_ (by simp) (nd_ (by simp) (nd_ (Nat.ble_eq_true_of_le (by omega)) (nd_ (by simp) ?_))))))))))
  rw [← hlen1]
  refine h1 hlt _ _ (Seen.objs rfl fun q o2 h => ?_)
  match q, h with
  | 0, h => cases h; exact ⟨_, rfl, rfl, fun _ _ _ h => h⟩
  | 1, h =>
   cases h
   refine ⟨_, rfl, rfl, fun _ _ _ h => ?_⟩
   rw [ht]
   rw [hlen1] at h
   have z1 := encZ (l.getD k Enc.dflt).ps
   have z2 := encZ (l.getD k Enc.dflt).vs
   exact row_app (α := Ms) (a := l.getD k Enc.dflt) rfl rfl (fun _ _ => rfl) (fun j hj => by
    have hj : j < 12 := hj
    simp only [Nat.zero_add] at z1 z2 ⊢
    match j, hj with
    | 0, _ => rfl
    | 1, _ => rfl
    | 2, _ => rfl
    | 3, _ => rfl
    | 4, _ => rfl
    | 5, _ => rfl
    | 6, _ => rfl
    | 7, _ => rfl
    | 8, _ => rfl
    | 9, _ => rfl
    | 10, _ => rfl
    | 11, _ => rfl) h
  | _ + 2, h => cases h
 ·have hge : ¬ k < l.length := by simpa using hlt
  have hkn : k = l.length := by omega
  subst hkn
  exact h2 rfl
theorem me_told : ToldW Tryz.prog 48 (okA1 (Rw Ms) fun r => Nat.ble r.l.length 100000) (ansA1 (Rw Ms) fun r => .ret (ansW r.l 1)) := by
 refine toldA1 follows fun r hg hp => ⟨toldM6, 100, 20, fun _ => 0, fun _ => slMe, exMe r.l r.c, toldM6_ok, fun β hβ => ?_⟩
 obtain ⟨l, c⟩ := r
 obtain ⟨g1, g2, g3⟩ := hg
 have hp : l.length ≤ 100000 := Nat.le_of_ble_eq_true hp
 show lawE Tryz.prog toldM6 100 20 β (fun _ => 0) (cnOf 1 fun _ => slMe) (exMe l c) 48 [.slice (some ⟨0, 0, some 0⟩) l.length c] (mkS [some (rowO .look l)]) (outC 1 fun r m => ∃ m2, objsR m m2 ∧ ansE (.ret (ansW l 1)) r (mkS m2))
 refine (vc_me l c β _).mpr ?_
 refine ⟨LoopJ.seen (f1 := FMe l [] c (0 : Nat)) (st1 := SMe l []) (Seen.nilSlot 2 12 (encL ([] : List Ms)) rfl rfl rfl fun t v h => ?_) (me_loop hβ (by omega) g1), ?_⟩
 ·rcases mkFT_get _ _ _ _ h with h2 | h2
  ·simp at h2
   rcases h2 with ⟨rfl, rfl⟩ | ⟨rfl, rfl⟩ | ⟨rfl, rfl⟩ | ⟨rfl, rfl⟩
   ·exact .inl ⟨rfl, rfl⟩
   ·exact .inr rfl
   ·exact .inr rfl
   ·exact .inr rfl
  ·cases h2
 ·exact ⟨_, objsR.refl _, [1], raE_row rfl (fun _ => rfl) (Nat.le_refl _) (by omega) (fun i _ j _ => by rw [Nat.zero_add]), by simp⟩
def toldN1 : Told := toldM6.tree 48 (okA1 (Rw Ms) fun r => Nat.ble r.l.length 100000) (ansA1 (Rw Ms) fun r => .ret (ansW r.l 1))
theorem toldN1_ok : ToldS Tryz.prog toldN1 := Told.tree_ok toldM6_ok me_told
def slTw : List Nat := [1, 2, 24, 25, 26]
def FTw (s : Ss) (k : Int) : AFr := mkF 41 [(1, .pointer (some ⟨4, 0, none⟩)), (2, .pointer (some ⟨9, 0, none⟩)), (24, .slice (some ⟨8, 0, some 0⟩) s.sub.length s.csub), (25, .int .i64 s.sub.length), (26, .int .i64 k)]
def STw (s : Ss) : ASt := mkS (ssR .look s ++ [some (ssO (nrm s) 5)] ++ ssR .mine s ++ [some (.cells (ssCs zSs nilV nilV nilV nilV) true 0)])
def exTw (s : Ss) : Nat → Kt → Prop := fun b K => K (.exit b) (FTw s s.sub.length) (STw s)
theorem vc_tw (s : Ss) (β : Bs) (K : AE → List (Option AObj) → Prop) : lawE Tryz.prog toldN1 100 20 β (fun _ => 0) (cnOf 4 fun _ => slTw) (exTw s) 25 [ssV s 0] (mkS (ssR .look s)) (outC 4 K) =
 (fun (z2 z3 z4 z5 : Nat) => ((fun (z0 z1 : Td) (z6 z7 z8 z9 : AObj) => ((fun (z10 z11 : Nat) => (need (true && Nat.ble (0 + List.length (Ss.fb s)) z3) (need (okC 1 [Ta.cell (.fr 1 z3 (Ss.cfb s) fun i => encL (Ss.fb s) (0 + i))]) (need (true && Nat.ble (0 + List.length (Ss.ins s)) z4) (need (okA1 (Rw Ms) (fun r => Nat.ble (List.length (Rw.l r)) 100000) [Ta.cell z0]) (need (true && Nat.ble (0 + List.length (Ss.out s)) z5) (need (okA1 (Rw Ms) (fun r => Nat.ble (List.length (Rw.l r)) 100000) [Ta.cell z1]) (need (true && Nat.ble (0 + List.length (Ss.sub s)) z2) (need (okC 15 [Ta.cell (.fr 15 z2 (Ss.csub s) fun i => encL (Ss.sub s) (0 + i))]) (LoopJ Tryz.prog β (exTw s) 0 (loopOf Tryz.prog 25 0) (mkF 41 [(1, .pointer (some ⟨4, 0, none⟩)), (2, .pointer (some ⟨9, 0, none⟩)), (24, .slice (some ⟨8, 0, some 0⟩) z2 (Ss.csub s)), (25, .int .i64 (Int.ofNat z2)), (26, .int .i64 (0 : Int))]) (mkS [some z9, some z6, some z7, some z8, some (.cells [.bool (Ss.on s), .int .i64 (Ss.se s), .slice (some ⟨5, 0, some 0⟩) z3 (Ss.cfb s), .bool (Ss.ba s), .slice (some ⟨6, 0, some 0⟩) z10 1, .slice (some ⟨7, 0, some 0⟩) z11 1, .slice (some ⟨8, 0, some 0⟩) z2 (Ss.csub s), .int .i64 (Ss.num s)] true 0), some (.row .mine 1 0 z3 fun i => encL (Ss.fb s) (0 + i)), some (.row .mine 12 0 z10 (encL (listT Ms z0))), some (.row .mine 12 0 z11 (encL (listT Ms z1))), some (.row .mine 15 0 z2 fun i => encL (Ss.sub s) (0 + i)), some (.cells [.bool false, .int .i64 (0 : Int), .slice none 0 0, .bool false, .slice none 0 0, .slice none 0 0, .slice none 0 0, .int .i64 (0 : Int)] true 0)]) ∧ K (.returned (Value.agg (Array.mk [.bool (Ss.on s), .int .i64 (Ss.se s), .slice (some ⟨4, 0, some 0⟩) z3 (Ss.cfb s), .bool (Ss.ba s), .slice (some ⟨5, 0, some 0⟩) z4 1, .slice (some ⟨6, 0, some 0⟩) z5 1, .slice (some ⟨7, 0, some 0⟩) z2 (Ss.csub s), .int .i64 (Ss.num s)]))) [some z9, some z6, some z7, some z8, some (.row .mine 1 0 z3 (encL (Ss.fb s))), some (.row .mine 12 0 z4 (encL (Ss.ins s))), some (.row .mine 12 0 z5 (encL (Ss.out s))), some (.row .mine 15 0 z2 (encL (Ss.sub s)))])))))))))) (List.length (listT Ms z0)) (List.length (listT Ms z1)))) (.fr 12 z4 (Ss.cins s) fun i => encL (Ss.ins s) (0 + i)) (.fr 12 z5 (Ss.cout s) fun i => encL (Ss.out s) (0 + i)) (.row .look 12 0 z4 (encL (Ss.ins s))) (.row .look 12 0 z5 (encL (Ss.out s))) (.row .look 15 0 z2 (encL (Ss.sub s))) (.row .look 1 0 z3 (encL (Ss.fb s))))) (List.length (Ss.sub s)) (List.length (Ss.fb s)) (List.length (Ss.ins s)) (List.length (Ss.out s)) := by kernel_rfl
theorem vc_tw_r (s : Ss) (k : Int) (β : Bs) (Nx : Kt) : roundJ Tryz.prog toldN1 100 20 β (fun _ => 0) (cnOf 4 fun _ => slTw) (fun _ _ => False) 25 0 4 (fun _ => slTw) (FTw s k) (STw s) Nx =
 (fun (z2 z4 z5 z6 z8 : Nat) (z3 : AObj) (z17 : Addr) => ((fun (z0 z10 z11 z12 z13 z14 z15 z16 : AObj) (z1 : Wt) (z18 : Bool) => ((fun (z9 : Nat) => ((fun (z7 : Bool) => (br (decide (k < Int.ofNat z2)) (need (decide ((0 : Int) ≤ k)) (need z18 (need (Nat.ble 0 z8 && Nat.blt z8 z2) (need z7 (need (okC 5 [Ta.cell (.fr 5 z9 (Wt.cqu z1) fun i => encL (Wt.qu z1) (0 + i))]) (need (decide ((0 : Int) ≤ k)) (need z18 (need z7 (need (Nat.blt z8 z2) (Nx .normal (mkF 41 [(1, .pointer (some ⟨4, 0, none⟩)), (2, .pointer (some ⟨9, 0, none⟩)), (24, .slice (some z17) z2 (Ss.csub s)), (25, .int .i64 (Int.ofNat z2)), (26, .int .i64 (IntKind.wrap .i64 (k + (1 : Int))))]) (mkS [some z15, some z10, some z11, some z12, some z0, some z16, some z13, some z14, some (.row .mine 15 0 z2 (putT z8 14 [.fr 5 z9 (Wt.cqu z1) fun i => encL (Wt.qu z1) (0 + (0 + i))] (encL (Ss.sub s)))), some z3]))))))))))) (Nx (.exit 0) (mkF 41 [(1, .pointer (some ⟨4, 0, none⟩)), (2, .pointer (some ⟨9, 0, none⟩)), (24, .slice (some z17) z2 (Ss.csub s)), (25, .int .i64 (Int.ofNat z2)), (26, .int .i64 k)]) (mkS [some z15, some z10, some z11, some z12, some z0, some z16, some z13, some z14, some (.row .mine 15 0 z2 (encL (Ss.sub s))), some z3])))) (true && Nat.ble (0 + List.length (Wt.qu z1)) z9))) (List.length (Wt.qu z1)))) (.cells [.bool (Ss.on s), .int .i64 (Ss.se s), .slice (some ⟨5, 0, some 0⟩) z6 (Ss.cfb s), .bool (Ss.ba s), .slice (some ⟨6, 0, some 0⟩) z4 1, .slice (some ⟨7, 0, some 0⟩) z5 1, .slice (some z17) z2 (Ss.csub s), .int .i64 (Ss.num s)] true 0) (.row .look 12 0 z4 (encL (Ss.ins s))) (.row .look 12 0 z5 (encL (Ss.out s))) (.row .look 15 0 z2 (encL (Ss.sub s))) (.row .mine 12 0 z4 (encL (Ss.ins s))) (.row .mine 12 0 z5 (encL (Ss.out s))) (.row .look 1 0 z6 (encL (Ss.fb s))) (.row .mine 1 0 z6 (encL (Ss.fb s))) (List.getD (Ss.sub s) z8 Enc.dflt) (Nat.blt (Int.toNat k) z2))) (List.length (Ss.sub s)) (List.length (Ss.ins s)) (List.length (Ss.out s)) (List.length (Ss.fb s)) (0 + Int.toNat k) (.cells [.bool false, .int .i64 (0 : Int), .slice none 0 0, .bool false, .slice none 0 0, .slice none 0 0, .slice none 0 0, .int .i64 (0 : Int)] true 0) ⟨8, 0, some 0⟩ := by kernel_rfl
theorem tw_loop {s : Ss} {β : Bs} (hβ : β.X.length = 4) (hl : s.sub.length ≤ 100000) (hok : s.sub.all (okA Wt) = true) : LoopJ Tryz.prog β (exTw s) 0 (loopOf Tryz.prog 25 0) (FTw s (0 : Nat)) (STw s) := by
 refine cnt_loop (N := s.sub.length) (F := fun k => FTw s (k : Nat)) (S := fun k => STw s) (fun K hK => hK) (fun k Nx hk h1 h2 => ?_)
 refine rJ_ (E := 4) (lvs := fun _ => slTw) (un := fun _ => 0) (fuel := 100) (n := 20) (ex := fun _ _ => False) follows toldN1_ok hβ (lv := fun _ => slTw) ?_
 rw [vc_tw_r]
 try dsimp only
 have e0 : Int.toNat (k : Int) = k := Int.toNat_natCast k
 rw [e0, Nat.zero_add]
 refine br_of (fun hlt => ?_) (fun hlt => ?_)
 ·have hlt : k < s.sub.length := by simpa using hlt
  have hw : IntKind.wrap .i64 ((k : Int) + 1) = ((k + 1 : Nat) : Int) := w64 (by omega) (by omega)
  obtain ⟨a1, a2, a3⟩ := okA_wt_inv (all_getA hok hlt)
  have c3 : Nat.blt k s.sub.length = true := by simpa using hlt
  rw [hw]
  refine nd_ (by simp) (nd_ c3 (nd_ (by simpa using hlt) (nd_ (by simp) (nd_ (okC_enc a2 a3 rfl) (nd_ (by simp) (nd_ c3 (nd_ (by simp) (nd_ c3 ?_))))))))
  refine h1 hlt _ _ (Seen.objs rfl fun q o2 h => ?_)
  match q, h with
  | 0, h => cases h; exact ⟨_, rfl, rfl, fun _ _ _ h => h⟩
  | 1, h => cases h; exact ⟨_, rfl, rfl, fun _ _ _ h => h⟩
  | 2, h => cases h; exact ⟨_, rfl, rfl, fun _ _ _ h => h⟩
  | 3, h => cases h; exact ⟨_, rfl, rfl, fun _ _ _ h => h⟩
  | 4, h => cases h; exact ⟨_, rfl, rfl, fun _ _ _ h => h⟩
  | 5, h => cases h; exact ⟨_, rfl, rfl, fun _ _ _ h => h⟩
  | 6, h => cases h; exact ⟨_, rfl, rfl, fun _ _ _ h => h⟩
  | 7, h => cases h; exact ⟨_, rfl, rfl, fun _ _ _ h => h⟩
  | 8, h =>
   cases h
   refine ⟨_, rfl, rfl, fun _ _ _ h => ObjR.row_congr rfl (fun i _ _ j hj => ?_) h⟩
   have := putT_enc (α := Wt) (A := s.sub) (i0 := k) (off := 14) (a := s.sub.getD k Enc.dflt) (g := encL s.sub) (ts := [.fr 5 (s.sub.getD k Enc.dflt).qu.length (s.sub.getD k Enc.dflt).cqu fun i => encL (s.sub.getD k Enc.dflt).qu (0 + (0 + i))]) hlt (fun _ _ _ => rfl) (fun j h1 h2 _ => by
    have : j = 14 := by simp at h2; omega
    subst this
    show Td.fr 5 _ _ _ = Td.fr 5 _ _ _
    simp only [Nat.zero_add]) (fun j _ _ => rfl) i j hj
   rw [set_self] at this
   exact this
  | 9, h => cases h; exact ⟨_, rfl, rfl, fun _ _ _ h => h⟩
  | _ + 10, h => cases h
 ·have hge : ¬ k < s.sub.length := by simpa using hlt
  have hkn : k = s.sub.length := by omega
  subst hkn
  exact h2 rfl
def fitS (s : Ss) : Bool := Nat.ble s.ins.length 100000 && Nat.ble s.out.length 100000 && Nat.ble s.sub.length 100000
theorem listT_z {α : Type} [Enc α] (l : List α) (c : Nat) : listT α (Td.fr (Enc.es α) l.length c fun i => encL l (0 + i)) = l := by rw [encZ]; exact lT_ l c
theorem tw_told : ToldW Tryz.prog 25 (okA1 (Sc Ss) fun s => fitS s.x) (ansA1 (Sc Ss) fun s => .ret (ansO (nrm s.x))) := by
 refine toldA1 follows fun r hg hp => ⟨toldN1, 100, 20, fun _ => 0, fun _ => slTw, exTw r.x, toldN1_ok, fun β hβ => ?_⟩
 obtain ⟨s⟩ := r
 obtain ⟨g1, g2, g3, g4, g5, g6, g7, g8, g9, g10, g11, g12⟩ := okA_ss_inv hg
 have hp : fitS s = true := hp
 unfold fitS at hp
 simp only [Bool.and_eq_true] at hp
 obtain ⟨⟨p1, p2⟩, p3⟩ := hp
 have p3 := Nat.le_of_ble_eq_true p3
 show lawE Tryz.prog toldN1 100 20 β (fun _ => 0) (cnOf 4 fun _ => slTw) (exTw s) 25 [ssV s 0] (mkS (ssR .look s)) (outC 4 fun r m => ∃ m2, objsR m m2 ∧ ansE (.ret (ansO (nrm s))) r (mkS m2))
 refine (vc_tw s β _).mpr ?_
 try dsimp only
 have z1 := listT_z (α := Ms) s.ins s.cins
 have z2 := listT_z (α := Ms) s.out s.cout
 have y1 := encZ s.fb
 have y2 := encZ s.ins
 have y3 := encZ s.out
 have y4 := encZ s.sub
 have z1 : listT Ms (Td.fr 12 s.ins.length s.cins fun i => encL s.ins (0 + i)) = s.ins := z1
 have z2 : listT Ms (Td.fr 12 s.out.length s.cout fun i => encL s.out (0 + i)) = s.out := z2
 rw [z1, z2, y1, y2, y3, y4]
 refine nd_ (by simp) (nd_ (okC_enc g2 g3 rfl) (nd_ (by simp) (nd_ (okA1_rw g4 g5 g6 p1) (nd_ (by simp) (nd_ (okA1_rw g7 g8 g9 p2) (nd_ (by simp) (nd_ (okC_enc g11 g12 rfl) ⟨tw_loop hβ p3 g10, ?_⟩)))))))
 refine ⟨_, objsR.refl _, [4, 5, 6, 7], ⟨_, rfl, ?_⟩, by simp⟩
 refine rS_ rfl rfl (rS_ rfl rfl (rO_ (l1 := [4]) (l2 := [5, 6, 7]) (raE_L s.fb rfl fun _ => rfl) ?_))
 refine rS_ rfl rfl (rO_ (l1 := [5]) (l2 := [6, 7]) (raE_L s.ins rfl fun _ => rfl) ?_)
 refine rO_ (l1 := [6]) (l2 := [7]) (raE_L s.out rfl fun _ => rfl) ?_
 refine rO_ (l1 := [7]) (l2 := []) (raE_L s.sub rfl fun _ => rfl) ?_
 exact rS_ rfl rfl rasE_nil
def toldN2 : Told := toldN1.tree 25 (okA1 (Sc Ss) fun s => fitS s.x) (ansA1 (Sc Ss) fun s => .ret (ansO (nrm s.x)))
theorem toldN2_ok : ToldS Tryz.prog toldN2 := Told.tree_ok toldN1_ok tw_told
theorem okS2_enc {α : Type} [Enc α] [EncO α] [EncQ α] {p : α → α → Bool} {x y : α} (hx : okA α x = true) (hy : okA α y = true) (hp : p x y = true) : okS2 α p [.agg (encTs x), .agg (encTs y)] = true := by
 show (Nat.beq (encTs x).length (Enc.es α) && Nat.beq (encTs y).length (Enc.es α) && Enc.ok α (nthT (encTs x)) && Enc.ok α (nthT (encTs y)) && p (Enc.dec (nthT (encTs x))) (Enc.dec (nthT (encTs y)))) = true
 rw [eL_, eL_, Nat.beq_refl, (dE_ x).1, (dE_ x).2, (dE_ y).1, (dE_ y).2, hx, hy, hp]; rfl
theorem ss_loop {l m : List Ms} {c d : Nat} {β : Bs} (hβ : β.X.length = 2) (hlm : l.length = m.length) (hl : l.length ≤ 1000000) (ok1 : l.all (okA Ms) = true) (ok2 : m.all (okA Ms) = true) : LoopJ Tryz.prog β (exSs l m c d) 0 (loopOf Tryz.prog 29 0) (FSs l m c d (0 : Nat)) (SSs l m) := by
 refine all_loop (N := l.length) (F := fun k => FSs l m c d (k : Nat)) (S := SSs l m) (Fr := FSsr) (Sr := SSs l m) (p := fun i => sameM (l.getD i Enc.dflt) (m.getD i Enc.dflt)) (fun K hK => hK) (fun k Nx hk h1 h2 h3 => ?_)
 refine rJ_ (E := 2) (lvs := fun _ => slSs) (un := fun _ => 0) (fuel := 100) (n := 20) (ex := fun _ _ => False) follows toldM6_ok hβ (lv := lvSs) ?_
 rw [vc_ss_r]
 try dsimp only
 have e0 : Int.toNat (k : Int) = k := Int.toNat_natCast k
 simp only [e0, Nat.zero_add]
 refine br_of (fun hlt => ?_) (fun hlt => ?_)
 ·have hlt : k < l.length := by simpa using hlt
  have hw : IntKind.wrap .i64 ((k : Int) + 1) = ((k + 1 : Nat) : Int) := w64 (by omega) (by omega)
  have c3 : Nat.blt k l.length = true := by simpa using hlt
  have c4 : Nat.blt k m.length = true := by rw [← hlm]; exact c3
  have a1 := all_getA ok1 hlt
  have a2 := all_getA ok2 (k := k) (by omega)
  rw [hw]
  refine nd_ (by simp) (nd_ c3 (nd_ (by simpa using hlt) (nd_ (by simp) (nd_ c4 (nd_ (by rw [c4]; rfl) (nd_ (by simp) (nd_ (by simp) (nd_ (by simp) (nd_ (by simp) (nd_ (okS2_enc a1 a2 rfl) ?_))))))))))
  refine br_of (fun hq => h1 hlt ?_) (fun hq => h2 hlt ?_)
  ·have hq : (!sameM (Enc.dec (nthT (encTs (l.getD k Enc.dflt)))) (Enc.dec (nthT (encTs (m.getD k Enc.dflt))))) = true := hq
   rw [(dE_ _).1, (dE_ _).1] at hq
   simpa using hq
  ·have hq : (!sameM (Enc.dec (nthT (encTs (l.getD k Enc.dflt)))) (Enc.dec (nthT (encTs (m.getD k Enc.dflt))))) = false := hq
   rw [(dE_ _).1, (dE_ _).1] at hq
   simpa using hq
 ·have hge : ¬ k < l.length := by simpa using hlt
  have hkn : k = l.length := by omega
  subst hkn
  exact h3 rfl
theorem ss_told : ToldW Tryz.prog 29 (okA2 (Rw Ms) (Rw Ms) fun _ _ => true) (ansA2 (Rw Ms) (Rw Ms) fun l m => bAns (Nat.beq l.l.length m.l.length && sameMs l.l m.l)) := by
 refine toldA2 follows fun r t hr ht _ => ⟨toldM6, 100, 20, fun _ => 0, fun _ => slSs, exSs r.l t.l r.c t.c, toldM6_ok, fun β hβ => ?_⟩
 obtain ⟨l, c⟩ := r
 obtain ⟨m, d⟩ := t
 obtain ⟨g1, g2, g3⟩ := hr
 obtain ⟨k1, k2, k3⟩ := ht
 show lawE Tryz.prog toldM6 100 20 β (fun _ => 0) (cnOf 2 fun _ => slSs) (exSs l m c d) 29 [.slice (some ⟨0, 0, some 0⟩) l.length c, .slice (some ⟨1, 0, some 0⟩) m.length d] (SSs l m) (outC 2 fun r q => ∃ m2, objsR q m2 ∧ ansE (bAns (Nat.beq l.length m.length && sameMs l m)) r (mkS m2))
 refine (vc_ss l m c d β _).mpr ?_
 refine br_of (fun q => bL_ ?_) (fun q => ?_)
 ·have h : l.length ≠ m.length := fun h => by rw [h] at q; simp at q
  rw [beq_false h]; rfl
 ·have h : l.length = m.length := by
   have := (bne_eq_false_iff_eq).1 q
   exact Int.ofNat.inj this
  refine ⟨ss_loop hβ h g2 g1 k1, fun e => bL_ ?_, fun e => bL_ ?_⟩
  ·rw [e, Bool.and_false]
  ·rw [e, h, Nat.beq_refl]; rfl
def toldN3 : Told := toldN2.tree 29 (okA2 (Rw Ms) (Rw Ms) fun _ _ => true) (ansA2 (Rw Ms) (Rw Ms) fun l m => bAns (Nat.beq l.l.length m.l.length && sameMs l.l m.l))
theorem toldN3_ok : ToldS Tryz.prog toldN3 := Told.tree_ok toldN2_ok ss_told
def sameW (a b : Wt) : Bool := (cond (Wt.nu a != Wt.nu b) false (cond (Wt.ad a != Wt.ad b) false (cond (Wt.ev a != Wt.ev b) false (cond (Wt.du a != Wt.du b) false (cond (Vl.k (Wt.bd a) == Vl.k (Wt.bd b)) (cond (Vl.i (Wt.bd a) == Vl.i (Wt.bd b)) (cond (!sameN (Vl.f (Wt.bd a)) (Vl.f (Wt.bd b))) false (cond (Wt.mo a != Wt.mo b) false (cond (!Wt.ha a == Wt.ha b) false (cond (!Wt.lo a == Wt.lo b) false (cond (Vl.k (Wt.la a) == Vl.k (Wt.la b)) (cond (Vl.i (Wt.la a) == Vl.i (Wt.la b)) (cond (!sameN (Vl.f (Wt.la a)) (Vl.f (Wt.la b))) false (cond (Wt.sq a != Wt.sq b) false (cond (Int.ofNat (List.length (Wt.qu a)) != Int.ofNat (List.length (Wt.qu b))) false (sameIs (Wt.qu a) (Wt.qu b))))) false) false))))) false) false)))))
theorem sw_loop {a b : Wt} {β : Bs} (hβ : β.X.length = 2) (hlm : a.qu.length = b.qu.length) (hl : a.qu.length ≤ 1000000) : LoopJ Tryz.prog β (exSw a b) 0 (loopOf Tryz.prog 30 0) (FSw (0 : Nat)) (SSw a b) := by
 refine all_loop (N := a.qu.length) (F := fun k => FSw (k : Nat)) (S := SSw a b) (Fr := FSwr) (Sr := SSwr a b) (p := fun i => sameI (a.qu.getD i Enc.dflt) (b.qu.getD i Enc.dflt)) (fun K hK => hK) (fun k Nx hk h1 h2 h3 => ?_)
 refine rJ_ (E := 2) (lvs := fun _ => slSw) (un := fun _ => 0) (fuel := 100) (n := 20) (ex := fun _ _ => False) follows toldM6_ok hβ (lv := lvSw) ?_
 rw [vc_sw_r]
 try dsimp only
 have e0 : Int.toNat (k : Int) = k := Int.toNat_natCast k
 simp only [e0, Nat.zero_add]
 refine br_of (fun hlt => ?_) (fun hlt => ?_)
 ·have hlt : k < a.qu.length := by simpa using hlt
  have hw : IntKind.wrap .i64 ((k : Int) + 1) = ((k + 1 : Nat) : Int) := w64 (by omega) (by omega)
  have c3 : Nat.blt k a.qu.length = true := by simpa using hlt
  have c4 : Nat.blt k b.qu.length = true := by rw [← hlm]; exact c3
  rw [hw]
  refine nd_ (by simp) (nd_ c3 (nd_ (by simpa using hlt) (nd_ (by simp) (nd_ c4 (nd_ (by rw [c4]; rfl) ?_)))))
  have h1 := h1 hlt
  have h2 := h2 hlt
  refine br_of (fun q1 => br_of (fun q2 => br_of (fun q3 => br_of (fun q4 => br_of (fun q5 => h1 ?_) (fun q5 => h2 ?_)) (fun q4 => h1 ?_)) (fun q3 => h1 ?_)) (fun q2 => h1 ?_)) (fun q1 => h1 ?_)
  ·unfold sameI; rw [q1, q2, q3, q4]; simpa using q5
  ·unfold sameI; rw [q1, q2, q3, q4]; simpa using q5
  ·unfold sameI; rw [q1, q2, q3, q4]; rfl
  ·unfold sameI; rw [q1, q2, q3]; rfl
  ·unfold sameI; rw [q1, q2]; rfl
  ·unfold sameI; rw [q1]; rfl
 ·have hge : ¬ k < a.qu.length := by simpa using hlt
  have hkn : k = a.qu.length := by omega
  rw [hkn]
  exact h3 hkn
theorem sw_told : ToldW Tryz.prog 30 (okA2 (Sc Wt) (Sc Wt) fun _ _ => true) (ansA2 (Sc Wt) (Sc Wt) fun a b => bAns (sameW a.x b.x)) := by
 refine toldA2 follows fun r t hr ht _ => ⟨toldM6, 100, 20, fun _ => 0, fun _ => slSw, exSw r.x t.x, toldM6_ok, fun β hβ => ?_⟩
 obtain ⟨a⟩ := r
 obtain ⟨b⟩ := t
 obtain ⟨g1, g2, g3⟩ := okA_wt_inv hr
 show lawE Tryz.prog toldM6 100 20 β (fun _ => 0) (cnOf 2 fun _ => slSw) (exSw a b) 30 [wtV a 0, wtV b 1] (mkS [some (rowO .look a.qu), some (rowO .look b.qu)]) (outC 2 fun r q => ∃ m2, objsR q m2 ∧ ansE (bAns (sameW a b)) r (mkS m2))
 refine (vc_sw a b β _).mpr ?_
 try dsimp only
 repeat' (refine br_of (fun _ => ?_) (fun _ => ?_))
 all_goals first
  | exact bL_ (by simp only [sameW, *, cond_true, cond_false])
  | skip
 rename_i q
 have h : a.qu.length = b.qu.length := by
  have := (bne_eq_false_iff_eq).1 q
  exact Int.ofNat.inj this
 refine ⟨sw_loop hβ h g2, fun e => bL_ ?_, fun e => bL_ ?_⟩
 all_goals clear h
 ·simp only [sameW, *, cond_true, cond_false]
 ·simp only [sameW, *, cond_true, cond_false]
def toldN4 : Told := toldN3.tree 30 (okA2 (Sc Wt) (Sc Wt) fun _ _ => true) (ansA2 (Sc Wt) (Sc Wt) fun a b => bAns (sameW a.x b.x))
theorem toldN4_ok : ToldS Tryz.prog toldN4 := Told.tree_ok toldN3_ok sw_told
def slSe : List Nat := [2, 3, 5]
def lvSe : AX → List Nat := fun x => match x with
 | .ret => [4]
 | _ => slSe
def sameWs (l m : List Wt) : Bool := (List.range l.length).all fun i => sameW (l.getD i Enc.dflt) (m.getD i Enc.dflt)
def FSe (k : Int) : AFr := mkF 77 [(2, .pointer (some ⟨8, 0, none⟩)), (3, .pointer (some ⟨9, 0, none⟩)), (5, .int .i64 k)]
def FSer : AFr := mkF 77 [(4, .bool false)]
def SSe (a b : Ss) : ASt := mkS (ssR .look a ++ ssR .look b ++ [some (ssO a 0), some (ssO b 4)])
def SSer (a b : Ss) : ASt := mkS (ssR .look a ++ ssR .look b)
def exSe (a b : Ss) : Nat → Kt → Prop := fun x K => (sameWs a.sub b.sub = false → K .ret FSer (SSer a b)) ∧ (sameWs a.sub b.sub = true → K (.exit x) (FSe a.sub.length) (SSe a b))
theorem vc_se (a b : Ss) (β : Bs) (K : AE → List (Option AObj) → Prop) : lawE Tryz.prog toldN4 100 20 β (fun _ => 0) (cnOf 8 fun _ => slSe) (exSe a b) 9 [ssV a 0, ssV b 4] (mkS (ssR .look a ++ ssR .look b)) (outC 8 K) =
 (fun (z6 z7 z8 z9 z10 z11 z12 z13 : Nat) (z22 : AE) => ((fun (z2 z3 z4 z5 : Td) (z14 z15 z16 z17 z18 z19 z20 z21 : AObj) => ((fun (z0 : List (Option AObj)) => ((fun (z1 : Prop) => (br (!Ss.on a == Ss.on b) z1 (br (Ss.se a != Ss.se b) z1 (br (Ss.ba a == Ss.ba b) (need (true && Nat.ble (0 + List.length (Ss.fb a)) z6) (need (allB z6 fun j => encL (Ss.fb a) (0 + j)) (need (true && Nat.ble (0 + List.length (Ss.fb b)) z7) (need (allB z7 fun j => encL (Ss.fb b) (0 + j)) (br (!List.map (fun j => byteF (encL (Ss.fb a) (0 + j) 0)) (List.range z6) == List.map (fun j => byteF (encL (Ss.fb b) (0 + j) 0)) (List.range z7)) z1 (need (true && Nat.ble (0 + List.length (Ss.ins a)) z8) (need (true && Nat.ble (0 + List.length (Ss.ins b)) z9) (need (okA2 (Rw Ms) (Rw Ms) (fun x x_1 => true) [Ta.cell z2, Ta.cell z3]) (br (!(Nat.beq (List.length (listT Ms z2)) (List.length (listT Ms z3)) && sameMs (listT Ms z2) (listT Ms z3))) z1 (need (true && Nat.ble (0 + List.length (Ss.out a)) z10) (need (true && Nat.ble (0 + List.length (Ss.out b)) z11) (need (okA2 (Rw Ms) (Rw Ms) (fun x x_1 => true) [Ta.cell z4, Ta.cell z5]) (br (!(Nat.beq (List.length (listT Ms z4)) (List.length (listT Ms z5)) && sameMs (listT Ms z4) (listT Ms z5))) z1 (br (Ss.num a != Ss.num b) z1 (br (Int.ofNat z12 != Int.ofNat z13) z1 (LoopJ Tryz.prog β (exSe a b) 0 (loopOf Tryz.prog 9 0) (mkF 77 [(2, .pointer (some ⟨8, 0, none⟩)), (3, .pointer (some ⟨9, 0, none⟩)), (5, .int .i64 (0 : Int))]) (mkS [some z20, some z18, some z14, some z15, some z21, some z19, some z16, some z17, some (.cells [.bool (Ss.on a), .int .i64 (Ss.se a), .slice (some ⟨0, 0, some 0⟩) z6 (Ss.cfb a), .bool (Ss.ba a), .slice (some ⟨1, 0, some 0⟩) z8 (Ss.cins a), .slice (some ⟨2, 0, some 0⟩) z10 (Ss.cout a), .slice (some ⟨3, 0, some 0⟩) z12 (Ss.csub a), .int .i64 (Ss.num a)] true 0), some (.cells [.bool (Ss.on b), .int .i64 (Ss.se b), .slice (some ⟨4, 0, some 0⟩) z7 (Ss.cfb b), .bool (Ss.ba b), .slice (some ⟨5, 0, some 0⟩) z9 (Ss.cins b), .slice (some ⟨6, 0, some 0⟩) z11 (Ss.cout b), .slice (some ⟨7, 0, some 0⟩) z13 (Ss.csub b), .int .i64 (Ss.num b)] true 0)]) ∧ (sameWs (Ss.sub a) (Ss.sub b) = false → K z22 z0) ∧ (sameWs (Ss.sub a) (Ss.sub b) = true → K (.returned (.bool true)) z0))))))))))))))))) z1)))) (K z22 z0))) [some z20, some z18, some z14, some z15, some z21, some z19, some z16, some z17])) (.fr 12 z8 (Ss.cins a) fun i => encL (Ss.ins a) (0 + i)) (.fr 12 z9 (Ss.cins b) fun i => encL (Ss.ins b) (0 + i)) (.fr 12 z10 (Ss.cout a) fun i => encL (Ss.out a) (0 + i)) (.fr 12 z11 (Ss.cout b) fun i => encL (Ss.out b) (0 + i)) (.row .look 12 0 z10 (encL (Ss.out a))) (.row .look 15 0 z12 (encL (Ss.sub a))) (.row .look 12 0 z11 (encL (Ss.out b))) (.row .look 15 0 z13 (encL (Ss.sub b))) (.row .look 12 0 z8 (encL (Ss.ins a))) (.row .look 12 0 z9 (encL (Ss.ins b))) (.row .look 1 0 z6 (encL (Ss.fb a))) (.row .look 1 0 z7 (encL (Ss.fb b))))) (List.length (Ss.fb a)) (List.length (Ss.fb b)) (List.length (Ss.ins a)) (List.length (Ss.ins b)) (List.length (Ss.out a)) (List.length (Ss.out b)) (List.length (Ss.sub a)) (List.length (Ss.sub b)) (.returned (.bool false)) := by kernel_rfl
theorem vc_se_r (a b : Ss) (k : Int) (β : Bs) (Nx : Kt) : roundJ Tryz.prog toldN4 100 20 β (fun _ => 0) (cnOf 8 fun _ => slSe) (fun _ _ => False) 9 0 8 lvSe (FSe k) (SSe a b) Nx =
 (fun (z5 z6 z7 z18 z19 z20 z21 : Nat) (z12 z13 : AObj) => ((fun (z0 z1 : Wt) (z8 z9 z10 z11 z14 z15 : AObj) => ((fun (z2 : ASt) (z16 z17 : Nat) => ((fun (z3 z4 : List Td) => (br (decide (k < Int.ofNat z5)) (need (decide ((0 : Int) ≤ k)) (need (Nat.blt (Int.toNat k) z5) (need (Nat.ble 0 z7 && Nat.blt z7 z5) (need (decide ((0 : Int) ≤ k)) (need (Nat.blt (Int.toNat k) z6) (need (Nat.ble 0 z7 && Nat.blt z7 z6) (need (true && Nat.ble (0 + List.length (Wt.qu z0)) z16) (need (true && Nat.ble (0 + List.length (Wt.qu z1)) z17) (need (okA2 (Sc Wt) (Sc Wt) (fun x x_1 => true) [Ta.agg z3, Ta.agg z4]) (br (!sameW (Enc.dec (nthT z3)) (Enc.dec (nthT z4))) (Nx .ret (mkF 77 [(4, .bool false)]) (mkS [some z12, some z8, some z9, some z14, some z13, some z10, some z11, some z15])) (Nx .normal (mkF 77 [(2, .pointer (some ⟨8, 0, none⟩)), (3, .pointer (some ⟨9, 0, none⟩)), (5, .int .i64 (IntKind.wrap .i64 (k + (1 : Int))))]) z2))))))))))) (Nx (.exit 0) (mkF 77 [(2, .pointer (some ⟨8, 0, none⟩)), (3, .pointer (some ⟨9, 0, none⟩)), (5, .int .i64 k)]) z2))) [.sc (.int .i64 (Wt.nu z0)), .sc (.int .i64 (Wt.ad z0)), .sc (.int .i64 (Wt.ev z0)), .sc (.int .i64 (Wt.du z0)), .sc (.int .i64 (Vl.k (Wt.bd z0))), .sc (.int .i64 (Vl.i (Wt.bd z0))), .sc (.float .f64 (Vl.f (Wt.bd z0))), .sc (.int .i64 (Wt.mo z0)), .sc (.bool (Wt.ha z0)), .sc (.bool (Wt.lo z0)), .sc (.int .i64 (Vl.k (Wt.la z0))), .sc (.int .i64 (Vl.i (Wt.la z0))), .sc (.float .f64 (Vl.f (Wt.la z0))), .sc (.int .i64 (Wt.sq z0)), .fr 5 z16 (Wt.cqu z0) fun i => encL (Wt.qu z0) (0 + i)] [.sc (.int .i64 (Wt.nu z1)), .sc (.int .i64 (Wt.ad z1)), .sc (.int .i64 (Wt.ev z1)), .sc (.int .i64 (Wt.du z1)), .sc (.int .i64 (Vl.k (Wt.bd z1))), .sc (.int .i64 (Vl.i (Wt.bd z1))), .sc (.float .f64 (Vl.f (Wt.bd z1))), .sc (.int .i64 (Wt.mo z1)), .sc (.bool (Wt.ha z1)), .sc (.bool (Wt.lo z1)), .sc (.int .i64 (Vl.k (Wt.la z1))), .sc (.int .i64 (Vl.i (Wt.la z1))), .sc (.float .f64 (Vl.f (Wt.la z1))), .sc (.int .i64 (Wt.sq z1)), .fr 5 z17 (Wt.cqu z1) fun i => encL (Wt.qu z1) (0 + i)])) (mkS [some z12, some z8, some z9, some z14, some z13, some z10, some z11, some z15, some (.cells [.bool (Ss.on a), .int .i64 (Ss.se a), .slice (some ⟨0, 0, some 0⟩) (List.length (Ss.fb a)) (Ss.cfb a), .bool (Ss.ba a), .slice (some ⟨1, 0, some 0⟩) z18 (Ss.cins a), .slice (some ⟨2, 0, some 0⟩) z19 (Ss.cout a), .slice (some ⟨3, 0, some 0⟩) z5 (Ss.csub a), .int .i64 (Ss.num a)] true 0), some (.cells [.bool (Ss.on b), .int .i64 (Ss.se b), .slice (some ⟨4, 0, some 0⟩) (List.length (Ss.fb b)) (Ss.cfb b), .bool (Ss.ba b), .slice (some ⟨5, 0, some 0⟩) z20 (Ss.cins b), .slice (some ⟨6, 0, some 0⟩) z21 (Ss.cout b), .slice (some ⟨7, 0, some 0⟩) z6 (Ss.csub b), .int .i64 (Ss.num b)] true 0)]) (List.length (Wt.qu z0)) (List.length (Wt.qu z1)))) (List.getD (Ss.sub a) z7 Enc.dflt) (List.getD (Ss.sub b) z7 Enc.dflt) (.row .look 12 0 z18 (encL (Ss.ins a))) (.row .look 12 0 z19 (encL (Ss.out a))) (.row .look 12 0 z20 (encL (Ss.ins b))) (.row .look 12 0 z21 (encL (Ss.out b))) (.row .look 15 0 z5 (encL (Ss.sub a))) (.row .look 15 0 z6 (encL (Ss.sub b))))) (List.length (Ss.sub a)) (List.length (Ss.sub b)) (0 + Int.toNat k) (List.length (Ss.ins a)) (List.length (Ss.out a)) (List.length (Ss.ins b)) (List.length (Ss.out b)) (.row .look 1 0 (List.length (Ss.fb a)) (encL (Ss.fb a))) (.row .look 1 0 (List.length (Ss.fb b)) (encL (Ss.fb b))) := by kernel_rfl
def bys (l : List U8) : List UInt8 := (List.range l.length).map fun j => byteF (encL l j 0)
def sameSs (a b : Ss) : Bool := cond (!(a.on == b.on)) false (cond (a.se != b.se) false (cond (a.ba == b.ba) (cond (!(bys a.fb == bys b.fb)) false (cond (!(Nat.beq a.ins.length b.ins.length && sameMs a.ins b.ins)) false (cond (!(Nat.beq a.out.length b.out.length && sameMs a.out b.out)) false (cond (a.num != b.num) false (cond (Int.ofNat a.sub.length != Int.ofNat b.sub.length) false (sameWs a.sub b.sub)))))) false))
theorem se_loop {a b : Ss} {β : Bs} (hβ : β.X.length = 8) (hlm : a.sub.length = b.sub.length) (hl : a.sub.length ≤ 1000000) (ok1 : a.sub.all (okA Wt) = true) (ok2 : b.sub.all (okA Wt) = true) : LoopJ Tryz.prog β (exSe a b) 0 (loopOf Tryz.prog 9 0) (FSe (0 : Nat)) (SSe a b) := by
 refine all_loop (N := a.sub.length) (F := fun k => FSe (k : Nat)) (S := SSe a b) (Fr := FSer) (Sr := SSer a b) (p := fun i => sameW (a.sub.getD i Enc.dflt) (b.sub.getD i Enc.dflt)) (fun K hK => hK) (fun k Nx hk h1 h2 h3 => ?_)
 refine rJ_ (E := 8) (lvs := fun _ => slSe) (un := fun _ => 0) (fuel := 100) (n := 20) (ex := fun _ _ => False) follows toldN4_ok hβ (lv := lvSe) ?_
 rw [vc_se_r]
 try dsimp only
 have e0 : Int.toNat (k : Int) = k := Int.toNat_natCast k
 simp only [e0, Nat.zero_add]
 refine br_of (fun hlt => ?_) (fun hlt => ?_)
 ·have hlt : k < a.sub.length := by simpa using hlt
  have hw : IntKind.wrap .i64 ((k : Int) + 1) = ((k + 1 : Nat) : Int) := w64 (by omega) (by omega)
  have c3 : Nat.blt k a.sub.length = true := by simpa using hlt
  have c4 : Nat.blt k b.sub.length = true := by rw [← hlm]; exact c3
  have a1 := all_getA ok1 hlt
  have a2 := all_getA ok2 (k := k) (by omega)
  rw [hw]
  refine nd_ (by simp) (nd_ c3 (nd_ (by rw [c3]; rfl) (nd_ (by simp) (nd_ c4 (nd_ (by rw [c4]; rfl) (nd_ (by simp) (nd_ (by simp) (nd_ ((okA2_sc _ _).trans (by rw [a1, a2]; rfl)) ?_))))))))
  refine br_of (fun hq => h1 hlt ?_) (fun hq => h2 hlt ?_)
  ·have hq : (!sameW (Enc.dec (nthT (encTs (a.sub.getD k Enc.dflt)))) (Enc.dec (nthT (encTs (b.sub.getD k Enc.dflt))))) = true := hq
   rw [(dE_ _).1, (dE_ _).1] at hq
   simpa using hq
  ·have hq : (!sameW (Enc.dec (nthT (encTs (a.sub.getD k Enc.dflt)))) (Enc.dec (nthT (encTs (b.sub.getD k Enc.dflt))))) = false := hq
   rw [(dE_ _).1, (dE_ _).1] at hq
   simpa using hq
 ·have hge : ¬ k < a.sub.length := by simpa using hlt
  have hkn : k = a.sub.length := by omega
  rw [hkn]
  exact h3 hkn
theorem se_told : ToldW Tryz.prog 9 (okA2 (Sc Ss) (Sc Ss) fun _ _ => true) (ansA2 (Sc Ss) (Sc Ss) fun a b => bAns (sameSs a.x b.x)) := by
 refine toldA2 follows fun r t hr ht _ => ⟨toldN4, 100, 20, fun _ => 0, fun _ => slSe, exSe r.x t.x, toldN4_ok, fun β hβ => ?_⟩
 obtain ⟨a⟩ := r
 obtain ⟨b⟩ := t
 obtain ⟨g1, g2, g3, g4, g5, g6, g7, g8, g9, g10, g11, g12⟩ := okA_ss_inv hr
 obtain ⟨k1, k2, k3, k4, k5, k6, k7, k8, k9, k10, k11, k12⟩ := okA_ss_inv ht
 show lawE Tryz.prog toldN4 100 20 β (fun _ => 0) (cnOf 8 fun _ => slSe) (exSe a b) 9 [ssV a 0, ssV b 4] (mkS (ssR .look a ++ ssR .look b)) (outC 8 fun r q => ∃ m2, objsR q m2 ∧ ansE (bAns (sameSs a b)) r (mkS m2))
 refine (vc_se a b β _).mpr ?_
 try dsimp only
 have z1 : listT Ms (Td.fr 12 a.ins.length a.cins fun i => encL a.ins i) = a.ins := lT_ _ _
 have z2 : listT Ms (Td.fr 12 b.ins.length b.cins fun i => encL b.ins i) = b.ins := lT_ _ _
 have z3 : listT Ms (Td.fr 12 a.out.length a.cout fun i => encL a.out i) = a.out := lT_ _ _
 have z4 : listT Ms (Td.fr 12 b.out.length b.cout fun i => encL b.out i) = b.out := lT_ _ _
 simp only [Nat.zero_add, z1, z2, z3, z4]
 refine br_of (fun _ => bL_ (by simp only [sameSs, *, cond_true, cond_false])) (fun q1 => br_of (fun _ => bL_ (by simp only [sameSs, *, cond_true, cond_false])) (fun q2 => br_of (fun q3 => ?_) (fun _ => bL_ (by simp only [sameSs, *, cond_true, cond_false]))))
 refine nd_ (by simp) (nd_ (allB_all _ _) (nd_ (by simp) (nd_ (allB_all _ _) (br_of (fun q => bL_ ?_) (fun q4 => ?_)))))
 ·have q : (!(bys a.fb == bys b.fb)) = true := q
  simp only [sameSs, *, cond_true, cond_false]
 have q4 : (!(bys a.fb == bys b.fb)) = false := q4
 refine nd_ (by simp) (nd_ (by simp) (nd_ ?_ (br_of (fun q => bL_ ?_) (fun q5 => ?_))))
 ·show (okT Ms (tdL a.ins a.cins) && okT Ms (tdL b.ins b.cins) && true) = true
  rw [okT_tdL g4 g5 g6, okT_tdL k4 k5 k6]; rfl
 ·simp only [sameSs, *, cond_true, cond_false]
 refine nd_ (by simp) (nd_ (by simp) (nd_ ?_ (br_of (fun q => bL_ ?_) (fun q6 => ?_))))
 ·show (okT Ms (tdL a.out a.cout) && okT Ms (tdL b.out b.cout) && true) = true
  rw [okT_tdL g7 g8 g9, okT_tdL k7 k8 k9]; rfl
 ·simp only [sameSs, *, cond_true, cond_false]
 refine br_of (fun _ => bL_ (by simp only [sameSs, *, cond_true, cond_false])) (fun q7 => br_of (fun _ => bL_ (by simp only [sameSs, *, cond_true, cond_false])) (fun q8 => ?_))
 have h : a.sub.length = b.sub.length := by
  have := (bne_eq_false_iff_eq).1 q8
  exact Int.ofNat.inj this
 refine ⟨se_loop hβ h g11 g10 k10, fun e => bL_ ?_, fun e => bL_ ?_⟩
 all_goals clear h
 ·simp only [sameSs, *, cond_true, cond_false]
 ·simp only [sameSs, *, cond_true, cond_false]
def toldN5 : Told := toldN4.tree 9 (okA2 (Sc Ss) (Sc Ss) fun _ _ => true) (ansA2 (Sc Ss) (Sc Ss) fun a b => bAns (sameSs a.x b.x))
theorem toldN5_ok : ToldS Tryz.prog toldN5 := Told.tree_ok toldN4_ok se_told
theorem wr_ofInt (x : Int) : BitVec.ofInt 64 (IntKind.wrap .i64 x) = BitVec.ofInt 64 x := by
 apply BitVec.eq_of_toNat_eq
 simp only [BitVec.toNat_ofInt]
 unfold IntKind.wrap
 simp [IntKind.signed, IntKind.bits]
 omega
theorem wr_mod (x y : Int) (h : (x - y) % 18446744073709551616 = 0) : IntKind.wrap .i64 x = IntKind.wrap .i64 y := by
 unfold IntKind.wrap
 simp [IntKind.signed, IntKind.bits]
 omega
theorem or_low {a b : Nat} (hb : b < 256) : a * 256 ||| b = a * 256 + b := by
 have h := Nat.two_pow_add_eq_or_of_lt (i := 8) (b := b) (by omega) a
 rw [show 2 ^ 8 * a = a * 256 by omega] at h
 exact h.symm
theorem or_i64 {v b : Nat} (hb : b < 256) : IntKind.wrap .i64 (Int.ofNat (BitVec.toNat (BitVec.ofInt 64 (IntKind.wrap .i64 (IntKind.wrap .i64 (v : Int) * 256)) ||| BitVec.ofInt 64 (b : Int)))) = IntKind.wrap .i64 ((v * 256 + b : Nat) : Int) := by
 have e1 : BitVec.ofInt 64 (IntKind.wrap .i64 (IntKind.wrap .i64 (v : Int) * 256)) = BitVec.ofInt 64 ((v * 256 : Nat) : Int) := by
  rw [wr_ofInt]
  apply BitVec.eq_of_toNat_eq
  simp only [BitVec.toNat_ofInt]
  unfold IntKind.wrap
  simp [IntKind.signed, IntKind.bits]
  omega
 rw [e1]
 have e2 : (BitVec.ofInt 64 ((v * 256 : Nat) : Int)).toNat = (v % 72057594037927936) * 256 := by
  simp only [BitVec.toNat_ofInt]
  omega
 have e3 : (BitVec.ofInt 64 (b : Int)).toNat = b := by
  simp only [BitVec.toNat_ofInt]
  omega
 rw [BitVec.toNat_or, e2, e3, or_low hb]
 apply wr_mod
 simp only [Int.ofNat_eq_natCast]
 omega
theorem or_z64 {b : Nat} (hb : b < 256) : IntKind.wrap .i64 (Int.ofNat (BitVec.toNat (BitVec.ofInt 64 (0 : Int) ||| BitVec.ofInt 64 (b : Int)))) = IntKind.wrap .i64 ((0 * 256 + b : Nat) : Int) := by
 have := or_i64 (v := 0) hb
 rw [← this]
 rfl
def byA (L : List U8) (i : Nat) : Nat := (L.getD i Enc.dflt).v.toNat
def beN (L : List U8) (i : Nat) : Nat → Nat
 | 0 => 0
 | k + 1 => beN L i k * 256 + byA L (i + k)
def outCW : WayW := fun E K => outC E fun r l => ∃ l2, objsR l l2 ∧ K r (mkS l2)
theorem soundCW : SoundW outCW := fun E β K e w' hE hB h => (h.canon hE hB).objs
theorem b64 {L : List U8} (h : L.all (okA U8) = true) (i : Nat) : IntKind.wrap .i64 (U8.v (L.getD i Enc.dflt)) = ((byA L i : Nat) : Int) ∧ byA L i < 256 := by
 have h0 : 0 ≤ (L.getD i Enc.dflt).v ∧ (L.getD i Enc.dflt).v < 256 := by
  rcases Nat.lt_or_ge i L.length with hj | hj
  ·exact all_getU8 h hj
  ·have : L.getD i Enc.dflt = (Enc.dflt : U8) := by simp [List.getD, List.getElem?_eq_none hj]
   rw [this]; exact ⟨by show (0 : Int) ≤ 0; omega, by show (0 : Int) < 256; omega⟩
 unfold byA
 rw [w64 (by omega) (by omega)]
 omega
structure RdA where
 ok : Bool
 ret : AE
 i : Nat
 n : Nat
 c : Nat
 q : Bool
def rowN (o : Option AObj) : Nat := match o with
 | some (.row _ _ _ m _) => m
 | _ => 0
abbrev RdD : Type := List Value → Option (List U8 → Nat → Bool → RdA)
def rdS (L : List U8) (a : RdA) (i n c : Nat) (q : Bool) (b : Bool) : Sp := ⟨b, viR L i n c q, a.ret, [.to (rdO a.i a.n a.c a.q), .same], []⟩
def rdI (N n : Nat) (q : Bool) : Nat := cond q 0 (N - n)
def spRd (dec : RdD) (args : List Value) (objs : List (Option AObj)) : Option SpT := match args, objs with
 | .pointer (some ⟨0, 0, none⟩) :: xs, [some (.cells [.slice (some ⟨1, 0, some i⟩) n c, .bool q] true 0), o1] => match dec xs with
  | some F => some (.one (rdS (rowL U8 (rowN o1) o1) (F (rowL U8 (rowN o1) o1) n q) i n c q (rowB U8 (rowN o1) 0 o1 && (rowL U8 (rowN o1) o1).all (okA U8) && Nat.beq i (rdI (rowN o1) n q) && Nat.ble n (rowN o1) && (!q || Nat.beq n 0) && Nat.ble c 1 && (F (rowL U8 (rowN o1) o1) n q).ok)))
  | none => none
 | _, _ => none
theorem rd_told {P : Program} {g : FuncId} {dec : RdD}
  (h : ∀ xs F (L : List U8) (n c : Nat) (q : Bool), dec xs = some F → L.all (okA U8) = true → L.length ≤ 1000000 → n ≤ L.length → (q = true → n = 0) → c ≤ 1 → (F L n q).ok = true → ∃ (C : Told) (fuel k : Nat) (un : Nat → Nat) (lvs : Nat → List Nat) (ex : Nat → Kt → Prop), ToldS P C ∧
   ∀ β : Bs, β.X.length = 2 → ∀ K : AE → List (Option AObj) → Prop, (∀ m, (m[0]? = some (some (rdO (F L n q).i (F L n q).n (F L n q).c (F L n q).q)) ∨ ((F L n q).i = 0 ∧ (F L n q).n = 0 ∧ (F L n q).c = 1 ∧ m[0]? = some (some (.cells [.slice none 0 0, .bool (F L n q).q] true 0)))) → K (F L n q).ret m) →
    lawE P C fuel k β un (cnOf 2 lvs) ex g (.pointer (some ⟨0, 0, none⟩) :: xs) (mkS (viR L (rdI L.length n q) n c q)) (outC 2 K))
  (hr : ∀ xs F L n q, dec xs = some F → bkE (lkAt 2 []) (F L n q).ret = (F L n q).ret) : EffOkG outCW P g (pickS (spRd dec)) := by
 intro args objs s hs hb
 unfold pickS spRd at hs
 split at hs
 ·rename_i xs i n c q o1
  split at hs
  ·rename_i F hd
   simp only [Option.map_some, Option.some.injEq, SpT.pick] at hs
   subst hs
   have hb' := hb
   simp only [rdS, Bool.and_eq_true] at hb'
   obtain ⟨⟨⟨⟨⟨⟨b1, b2⟩, b3⟩, b3'⟩, b3''⟩, b4⟩, b5⟩ := hb'
   have b3 := Nat.eq_of_beq_eq_true b3
   have b3' := Nat.le_of_ble_eq_true b3'
   have b4 := Nat.le_of_ble_eq_true b4
   have b3'' : q = true → n = 0 := fun hq => by
    rw [hq] at b3''
    exact Nat.eq_of_beq_eq_true b3''
   obtain ⟨l1, m1, c1, v1⟩ := rowB_ok b1
   refine ⟨⟨rfl, fun j o h => ?_⟩, ?_⟩
   ·match j, h with
    | 0, h => cases h; exact ⟨_, rfl, fun h => h, fun _ _ _ h => h⟩
    | 1, h => cases h; obtain ⟨q, rfl, hq⟩ := v1; exact ⟨q, rfl, (fun h => by cases h), hq⟩
    | _ + 2, h => simp [rdS, viR] at h
   generalize rowL U8 (rowN o1) o1 = L at *
   rw [← l1] at b3 b3'
   subst b3
   obtain ⟨C, fuel, kk, un, lvs, ex, hC, hl⟩ := h xs F L n c q hd b2 (by omega) b3' b3'' b4 b5
   refine ⟨C, fuel, kk, un, lvs, ex, hC, fun β hβ => ?_⟩
   refine hl β hβ _ fun m hm => ?_
   have hm0 : ∃ o, m[0]? = some (some o) ∧ o.isOwn = true ∧ ∀ ρ s w, ObjR ρ o s w → ObjR ρ (rdO (F L n q).i (F L n q).n (F L n q).c (F L n q).q) s w := by
    rcases hm with hm | ⟨h1, h2, h3, hm⟩
    ·exact ⟨_, hm, rfl, fun _ _ _ h => h⟩
    ·refine ⟨_, hm, rfl, fun _ _ _ h => ?_⟩
     rw [h1, h2, h3]
     exact ObjR.nilCell (j := 0) (k := 1) rfl h
   obtain ⟨o, ho, ho1, ho2⟩ := hm0
   have hlt : 0 < m.length := (List.getElem?_eq_some_iff.1 ho).1
   refine ⟨m.set 0 (some (rdO (F L n q).i (F L n q).n (F L n q).c (F L n q).q)), ⟨by simp, fun j o2 e => ?_⟩, [], rfl, List.nodup_nil, by simp, (hr xs F L n q hd).symm, fun j o h => ?_, fun j x o h => by simp [rdS] at h⟩
   ·by_cases hj : j = 0
    ·subst hj
     rw [List.getElem?_set_self hlt] at e
     cases e
     exact ⟨o, ho, ho1.trans rfl, ho2⟩
    ·rw [List.getElem?_set_ne (Ne.symm hj)] at e
     exact ⟨o2, e, rfl, fun _ _ _ h => h⟩
   ·match j, h with
    | 0, h => cases h; rw [mkS_get, List.getElem?_set_self hlt]; rfl
    | 1, h => cases h
    | j + 2, h => simp [rdS] at h
  ·cases hs
 ·cases hs
def wN (L : List U8) : Nat := rowN (some (.row .look 1 0 (List.length L) (encL L)))
def wL (L : List U8) : List U8 := rowL U8 (rowN (some (.row .look 1 0 (List.length L) (encL L)))) (some (.row .look 1 0 (List.length L) (encL L)))
def wB (L : List U8) : Bool := rowB U8 (rowN (some (.row .look 1 0 (List.length L) (encL L)))) 0 (some (.row .look 1 0 (List.length L) (encL L)))
theorem wL_eq (L : List U8) : wL L = L := rowL_enc L _ _ _ _
theorem wN_eq (L : List U8) : wN L = L.length := rfl
theorem wB_eq {L : List U8} (h : L.all (okA U8) = true) (hl : L.length ≤ 1000000) : wB L = true := rowB_of .look rfl rfl h hl (by omega)
def bdK (k n : Nat) (q : Bool) : Bool := q || decide ((k : Int) > Int.ofNat n)
def vlK (k : Nat) (L : List U8) (n : Nat) (q : Bool) : Int := cond (bdK k n q) 0 (IntKind.wrap .i64 (beN L (L.length - n) k : Nat))
def iK (k N n : Nat) (q : Bool) : Nat := rdI N (n - k) (bdK k n q)
def cK (k n : Nat) (q : Bool) : Nat := cond (bdK k n q) 1 0
def numA (k : Nat) (L : List U8) (n : Nat) (q : Bool) : RdA := ⟨true, .returned (.int .i64 (vlK k L n q)), iK k L.length n q, n - k, cK k n q, bdK k n q⟩
def deK : RdD := fun xs => match xs with
 | [.int .i64 k] => cond (k == 1) (some (numA 1)) (cond (k == 2) (some (numA 2)) (cond (k == 4) (some (numA 4)) (cond (k == 8) (some (numA 8)) none)))
 | _ => none
theorem rn_law {k : Nat} {L : List U8} {n c : Nat} {q : Bool} {K : AE → List (Option AObj) → Prop} {x : Int} {m1 m2 : List (Option AObj)} (hk : 0 < k) (hx : x = IntKind.wrap .i64 (beN L (rdI L.length n q) k : Nat)) (hn : n ≤ L.length) (hq0 : q = true → n = 0)
  (h1 : m1[0]? = some (some (.cells [.slice none 0 0, .bool true] true 0))) (h2 : m2[0]? = some (some (rdO (rdI L.length n q + k) (n - k) (cond (Nat.beq n 0) c 0) q)))
  (hK : ∀ m, (m[0]? = some (some (rdO (numA k L n q).i (numA k L n q).n (numA k L n q).c (numA k L n q).q)) ∨ ((numA k L n q).i = 0 ∧ (numA k L n q).n = 0 ∧ (numA k L n q).c = 1 ∧ m[0]? = some (some (.cells [.slice none 0 0, .bool (numA k L n q).q] true 0)))) → K (numA k L n q).ret m)
  {N : Prop} (hN : q = false → k ≤ n → K (.returned (.int .i64 x)) m2 → N) : br q (K (.returned (.int .i64 0)) m1) (br (decide ((k : Int) > Int.ofNat n)) (K (.returned (.int .i64 0)) m1) N) := by
 unfold numA vlK iK cK bdK at hK
 refine br_of (fun hq => ?_) (fun hq => br_of (fun hd => ?_) (fun hd => ?_))
 ·have := hq0 hq
  subst this
  rw [hq] at hK
  exact hK _ (.inr ⟨rfl, by show 0 - k = 0; omega, rfl, h1⟩)
 ·rw [hq, hd] at hK
  have hd := of_decide_eq_true hd
  simp only [Int.ofNat_eq_natCast] at hd
  exact hK _ (.inr ⟨rfl, by show n - k = 0; omega, rfl, h1⟩)
 ·rw [hq, hd] at hK
  have hd := of_decide_eq_false hd
  simp only [Int.ofNat_eq_natCast] at hd
  have e1 : rdI L.length n q = L.length - n := by rw [hq]; rfl
  rw [e1] at hx h2
  subst hx
  refine hN hq (by omega) (hK _ (.inl ?_))
  rw [h2, hq, beq_false (show n ≠ 0 by omega)]
  have e2 : L.length - n + k = L.length - (n - k) := by omega
  rw [e2]; rfl
theorem byOk {N n j : Nat} {q : Bool} (hq : q = false) (hn : n ≤ N) (hj : j < n) : (Nat.ble 0 (rdI N n q + j) && Nat.blt (rdI N n q + j) N) = true := by
 subst hq
 show (Nat.ble 0 (N - n + j) && Nat.blt (N - n + j) N) = true
 simp; omega
theorem byOk0 {N n : Nat} {q : Bool} (hq : q = false) (hn : n ≤ N) (hj : 0 < n) : (Nat.ble 0 (rdI N n q) && Nat.blt (rdI N n q) N) = true := byOk (j := 0) hq hn hj
theorem num_toldR : EffOkG outCW Tryz.prog 63 (pickS (spRd deK)) := by
 refine rd_told (fun xs F L n c q hd hL hl hn hq0 hc hok => ?_) (fun xs F L n q hd => ?_)
 ·unfold deK at hd
  split at hd
  ·rename_i k
   have hb := fun j => (b64 hL j).2
   have hv := fun j => (b64 hL j).1
   have main : ∀ (k : Nat), F = numA k → 0 < k → (∀ β : Bs, ∀ K : AE → List (Option AObj) → Prop, (∀ m, (m[0]? = some (some (rdO (numA k L n q).i (numA k L n q).n (numA k L n q).c (numA k L n q).q)) ∨ ((numA k L n q).i = 0 ∧ (numA k L n q).n = 0 ∧ (numA k L n q).c = 1 ∧ m[0]? = some (some (.cells [.slice none 0 0, .bool (numA k L n q).q] true 0)))) → K (numA k L n q).ret m) →
     lawE Tryz.prog toldM6 100 20 β (fun _ => 9) (cnOf 2 fun _ => []) (fun _ _ => False) 63 [.pointer (some ⟨0, 0, none⟩), .int .i64 (k : Int)] (mkS (viR L (rdI L.length n q) n c q)) (outC 2 K)) →
     ∃ (C : Told) (fuel kk : Nat) (un : Nat → Nat) (lvs : Nat → List Nat) (ex : Nat → Kt → Prop), ToldS Tryz.prog C ∧
   ∀ β : Bs, β.X.length = 2 → ∀ K : AE → List (Option AObj) → Prop, (∀ m, (m[0]? = some (some (rdO (F L n q).i (F L n q).n (F L n q).c (F L n q).q)) ∨ ((F L n q).i = 0 ∧ (F L n q).n = 0 ∧ (F L n q).c = 1 ∧ m[0]? = some (some (.cells [.slice none 0 0, .bool (F L n q).q] true 0)))) → K (F L n q).ret m) →
    lawE Tryz.prog C fuel kk β un (cnOf 2 lvs) ex 63 [.pointer (some ⟨0, 0, none⟩), .int .i64 (k : Int)] (mkS (viR L (rdI L.length n q) n c q)) (outC 2 K) := fun k hF hk h => ⟨toldM6, 100, 20, fun _ => 9, fun _ => [], fun _ _ => False, toldM6_ok, fun β _ K hK => by subst hF; exact h β K hK⟩
   cases h1 : (k == 1) with
   | true =>
    rw [h1] at hd
    have hk := eq_of_beq h1
    subst hk
    have hF : F = numA 1 := by cases hd; rfl
    refine main 1 hF (by omega) fun β K hK => (vc_rn1 L (rdI L.length n q) n c q β K).mpr ?_
    simp only [Nat.add_zero, hv, or_z64 (hb _)]
    exact rn_law (k := 1) (by omega) rfl hn hq0 rfl rfl hK fun hq hkn hK => nd_ (by simpa using hkn) (nd_ (by simpa using hkn) (nd_ (byOk0 hq hn (by omega)) hK))
   | false =>
    rw [h1] at hd
    cases h2 : (k == 2) with
    | true =>
     rw [h2] at hd
     have hk := eq_of_beq h2
     subst hk
     have hF : F = numA 2 := by cases hd; rfl
     refine main 2 hF (by omega) fun β K hK => (vc_rn2 L (rdI L.length n q) n c q β K).mpr ?_
     simp only [Nat.add_zero, hv, or_z64 (hb _), or_i64 (hb _)]
     exact rn_law (k := 2) (by omega) rfl hn hq0 rfl rfl hK fun hq hkn hK => nd_ (by simpa using hkn) (nd_ (by simpa using hkn) (nd_ (byOk0 hq hn (by omega)) (nd_ (byOk hq hn (by omega)) hK)))
    | false =>
     rw [h2] at hd
     cases h4 : (k == 4) with
     | true =>
      rw [h4] at hd
      have hk := eq_of_beq h4
      subst hk
      have hF : F = numA 4 := by cases hd; rfl
      refine main 4 hF (by omega) fun β K hK => (vc_rn4 L (rdI L.length n q) n c q β K).mpr ?_
      simp only [Nat.add_zero, hv, or_z64 (hb _), or_i64 (hb _)]
      exact rn_law (k := 4) (by omega) rfl hn hq0 rfl rfl hK fun hq hkn hK => nd_ (by simpa using hkn) (nd_ (by simpa using hkn) (nd_ (byOk0 hq hn (by omega)) (nd_ (byOk hq hn (by omega)) (nd_ (byOk hq hn (by omega)) (nd_ (byOk hq hn (by omega)) hK)))))
     | false =>
      rw [h4] at hd
      cases h8 : (k == 8) with
      | true =>
       rw [h8] at hd
       have hk := eq_of_beq h8
       subst hk
       have hF : F = numA 8 := by cases hd; rfl
       refine main 8 hF (by omega) fun β K hK => (vc_rn8 L (rdI L.length n q) n c q β K).mpr ?_
       simp only [Nat.add_zero, hv, or_z64 (hb _), or_i64 (hb _)]
       exact rn_law (k := 8) (by omega) rfl hn hq0 rfl rfl hK fun hq hkn hK => nd_ (by simpa using hkn) (nd_ (by simpa using hkn) (nd_ (byOk0 hq hn (by omega)) (nd_ (byOk hq hn (by omega)) (nd_ (byOk hq hn (by omega)) (nd_ (byOk hq hn (by omega)) (nd_ (byOk hq hn (by omega)) (nd_ (byOk hq hn (by omega)) (nd_ (byOk hq hn (by omega)) (nd_ (byOk hq hn (by omega)) hK)))))))))
      | false => rw [h8] at hd; cases hd
  ·cases hd
 ·unfold deK at hd
  split at hd
  ·rename_i k
   have hk : ∃ kk, F = numA kk := by
    revert hd
    cases (k == 1) <;> cases (k == 2) <;> cases (k == 4) <;> cases (k == 8) <;> intro hd <;> first | exact ⟨_, (Option.some.inj hd).symm⟩ | cases hd
   obtain ⟨kk, rfl⟩ := hk
   rfl
  ·cases hd
def toldR1 : Told := toldN5.effT 63 (spRd deK)
theorem toldR1_ok : ToldS Tryz.prog toldR1 := Told.effT_okG soundCW follows toldN5_ok num_toldR
end Go.Proofs.YtachglcffimmeaaGreat.Ev
