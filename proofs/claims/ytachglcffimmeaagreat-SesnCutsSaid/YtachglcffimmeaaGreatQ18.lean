/-
  What has to hold: printed by the evaluator.
-/
import Derived.Test.YtachglcffimmeaaGreatQ17
import Derived.Test.YtachglcffimmeaaGreatQ14
set_option linter.unusedVariables false
set_option maxRecDepth 1000000
set_option linter.unusedSimpArgs false
namespace Go.Proofs.YtachglcffimmeaaGreat.Ev
open Go Go.Proofs Go.RowKit
def exAk (l : List U8) (c : Nat) (id n : Int) : Nat → Kt → Prop := fun b => cond (Nat.beq b 1) (exA1 l c id ((numF l (numF l n 5).2 3).1 + 1).toNat (numF l (numF l n 5).2 3).2 b) (exA2 l c id ((numF l (numF l n 5).2 2).1 + 1).toNat (numF l (numF l n 5).2 2).2 b)
theorem vc_ask (l : List U8) (c : Nat) (n id : Int) (β : Bs) (K : AE → List (Option AObj) → Prop) : lawE Tryz.prog toldP4 100 20 β (fun _ => 0) (cnOf 2 lvsA) (exAk l c id n) 17 [.pointer (some ⟨0, 0, none⟩), .int .i64 id] (mkS (viP l c n)) (outK K) =
 (fun (z2 z22 z30 z31 z32 z38 z39 z40 z41 z42 z43 z44 : AObj) (z13 : Int × Int) (z29 : Addr) (z34 : Nat) (z37 : Int) => ((fun (z6 : List St × List Vl × Int) (z9 : AObj) (z19 : List St × Int) (z21 : Bool) (z33 z47 z48 z49 z50 : Int × Int) (z36 : Int) => ((fun (z3 : Int × Int) (z5 : Bool) (z18 z52 z53 : Nat) (z28 : Int) (z46 : List Vl) => ((fun (z7 : Bool) (z10 z14 z15 z16 : List Value) (z20 : AObj) (z35 : Int × Int) (z45 : Int) => ((fun (z1 : List Value) (z4 : Int × Int) (z12 : Bool) => ((fun (z11 z24 : AObj) (z17 z27 : Bool) (z26 : AE) (z51 : Int × Int) => ((fun (z0 : List Value) (z8 : AObj) => ((fun (z23 : AObj) (z25 : AE) => (need (Br l c && List.all (Lr l) (okA U8) && decide ((0 : Int) ≤ n) && true) (br (IntKind.wrap .i64 z36 == (1 : Int)) (need z21 (LoopJ Tryz.prog β (exAk l c id n) 1 (loopOf Tryz.prog 17 1) (mkF 102 [(0, .pointer (some ⟨0, 0, none⟩)), (4, .pointer (some ⟨2, 0, none⟩)), (5, .slice (some ⟨3, 0, none⟩) 10 10), (6, .pointer (some ⟨4, 0, none⟩)), (7, .int .i64 (IntKind.wrap .i64 (Prod.fst z48 + (1 : Int))))]) (mkS [some (.cells [.slice (some z29) z34 c, .int .i64 (Prod.snd z48)] true 0), some z9, some z22, some z2, some z20]) ∧ K (.returned (Value.agg (Array.mk z10))) [some (.cells [.slice (some z29) z34 c, .int .i64 (Prod.snd z19)] true 0), some z9, some (.cells z10 true 0), some (.row .mine 1 0 10 (encL ptsL)), some (.cells z10 true 0), some (.row .mine 1 0 z52 (encL (Prod.fst z19)))])) (br (IntKind.wrap .i64 z36 == (2 : Int)) (need z21 (LoopJ Tryz.prog β (exAk l c id n) 3 (loopOf Tryz.prog 17 3) (mkF 102 [(0, .pointer (some ⟨0, 0, none⟩)), (4, .pointer (some ⟨2, 0, none⟩)), (6, .pointer (some ⟨3, 0, none⟩)), (8, .int .i64 (IntKind.wrap .i64 (Prod.fst z49 + (1 : Int))))]) (mkS [some (.cells [.slice (some z29) z34 c, .int .i64 (Prod.snd z49)] true 0), some z9, some z22, some z20]) ∧ K (.returned (Value.agg (Array.mk z14))) [some (.cells [.slice (some z29) z34 c, .int .i64 (Prod.snd (Prod.snd z6))] true 0), some z9, some (.cells z14 true 0), some (.cells z14 true 0), some (.row .mine 1 0 z53 (encL (Prod.fst z6))), some (.row .mine 3 0 z46.length (encL z46))])) (br (IntKind.wrap .i64 z36 == (3 : Int)) (need z21 (K (.returned (Value.agg (Array.mk z15))) [some (.cells [.slice (some z29) z34 c, .int .i64 (Prod.snd z47)] true 0), some z9, some (.cells z15 true 0), some z2, none, some (.cells z15 true 0), none])) (br (IntKind.wrap .i64 z36 == (4 : Int)) (need z21 (need z21 (need (decide ((0 : Int) ≤ Prod.fst z33)) (br (Nat.beq z18 0) (need z5 (need z5 (need z7 (need z7 (need z12 (br z27 (need z17 (K z25 [some z8, some z9, some z23, some z2, none, some z23, none, some z39, none, none, none, none])) (K z26 [some z11, some z9, some z24, some z2, none, some z24, none, some z39, none, none, none]))))))) (br (Nat.beq z18 1) (need z5 (need z5 (need z7 (need z7 (need z12 (br z27 (need z17 (K z25 [some z8, some z9, some z23, some z2, none, some z23, none, some z40, none, none, none, none])) (K z26 [some z11, some z9, some z24, some z2, none, some z24, none, some z40, none, none, none]))))))) (br (Nat.beq z18 2) (need z5 (need z5 (need z7 (need z7 (need z12 (br z27 (need z17 (K z25 [some z8, some z9, some z23, some z2, none, some z23, none, some z41, none, none, none, none])) (K z26 [some z11, some z9, some z24, some z2, none, some z24, none, some z41, none, none, none]))))))) (br (Nat.beq z18 3) (need z5 (need z5 (need z7 (need z7 (need z12 (br z27 (need z17 (K z25 [some z8, some z9, some z23, some z2, none, some z23, none, some z30, none, none, none, none])) (K z26 [some z11, some z9, some z24, some z2, none, some z24, none, some z30, none, none, none]))))))) (br (Nat.beq z18 4) (need z5 (need z5 (need z7 (need z7 (need z12 (br z27 (need z17 (K z25 [some z8, some z9, some z23, some z2, none, some z23, none, some z31, none, none, none, none])) (K z26 [some z11, some z9, some z24, some z2, none, some z24, none, some z31, none, none, none])))))))
 (br (Nat.beq z18 5) (need z5 (need z5 (need z7 (need z7 (need z12 (br z27 (need z17 (K z25 [some z8, some z9, some z23, some z2, none, some z23, none, some z42, none, none, none, none])) (K z26 [some z11, some z9, some z24, some z2, none, some z24, none, some z42, none, none, none]))))))) (br (Nat.beq z18 6) (need z5 (need z5 (need z7 (need z7 (need z12 (br z27 (need z17 (K z25 [some z8, some z9, some z23, some z2, none, some z23, none, some z43, none, none, none, none])) (K z26 [some z11, some z9, some z24, some z2, none, some z24, none, some z43, none, none, none]))))))) (br (Nat.beq z18 7) (need z5 (need z5 (need z7 (need z7 (need z12 (br z27 (need z17 (K z25 [some z8, some z9, some z23, some z2, none, some z23, none, some z44, none, none, none, none])) (K z26 [some z11, some z9, some z24, some z2, none, some z24, none, some z44, none, none, none]))))))) (br (Nat.beq z18 8) (need z5 (need z5 (need z7 (need z7 (need z12 (br z27 (need z17 (K z25 [some z8, some z9, some z23, some z2, none, some z23, none, some z38, none, none, none, none])) (K z26 [some z11, some z9, some z24, some z2, none, some z24, none, some z38, none, none, none]))))))) (need (Nat.beq z18 9) (need z5 (need z5 (need z7 (need z7 (need z12 (br z27 (need z17 (K z25 [some z8, some z9, some z23, some z2, none, some z23, none, some z32, none, none, none, none])) (K z26 [some z11, some z9, some z24, some z2, none, some z24, none, some z32, none, none, none])))))))))))))))))))) (need z21 (K (.returned (Value.agg (Array.mk z16))) [some (.cells [.slice (some z29) z34 c, .int .i64 (Prod.snd z50)] true 0), some z9, some (.cells z16 true 0), some z2, none, some (.cells z16 true 0), none])))))))) (.cells z0 true 0) (.returned (Value.agg (Array.mk z0))))) [.int .i64 z28, .int .i64 id, .int .i64 (0 : Int), .int .i64 (Prod.fst z35), .int .i64 (0 : Int), .bool false, .int .i64 z45, .int .i64 (2 : Int), .int .i64 (wrF (2 : Int) (List.getD wholeT (Int.toNat (Prod.fst z51)) (0 : Int))), .float .f64 0, .slice (some ⟨7, 0, none⟩) 1 1, .slice none 0 0] (.cells [.slice (some z29) z34 c, .int .i64 (Prod.snd z51)] true 0))) (.cells [.slice (some z29) z34 c, .int .i64 (Prod.snd z4)] true 0) (.cells z1 true 0) (Br l c && List.all (Lr l) (okA U8) && decide ((0 : Int) ≤ Prod.snd z4) && true) (Prod.fst z4 == (0 : Int)) (.returned (Value.agg (Array.mk z1))) (numF (Lr l) (Prod.snd z4) (13 : Int)))) [.int .i64 z28, .int .i64 id, .int .i64 (0 : Int), .int .i64 (Prod.fst z35), .int .i64 (0 : Int), .bool false, .int .i64 z45, .int .i64 (0 : Int), .int .i64 (0 : Int), .float .f64 0, .slice (some ⟨7, 0, none⟩) 1 1, .slice none 0 0] (numF (Lr l) (Prod.snd z35) (2 : Int)) (Br l c && List.all (Lr l) (okA U8) && decide ((0 : Int) ≤ Prod.snd z35) && true))) (Br l c && List.all (Lr l) (okA U8) && decide ((0 : Int) ≤ Prod.snd z3) && true) [.int .i64 (1 : Int), .int .i64 id, .int .i64 (0 : Int), .int .i64 (0 : Int), .int .i64 (0 : Int), .bool false, .int .i64 (0 : Int), .int .i64 (0 : Int), .int .i64 (0 : Int), .float .f64 0, .slice (some ⟨5, 0, some 0⟩) z52 1, .slice none 0 0] [.int .i64 (2 : Int), .int .i64 id, .int .i64 (0 : Int), .int .i64 (0 : Int), .int .i64 (0 : Int), .bool false, .int .i64 (0 : Int), .int .i64 (0 : Int), .int .i64 (0 : Int), .float .f64 0, .slice (some ⟨4, 0, some 0⟩) z53 1, .slice (some ⟨5, 0, some 0⟩) z46.length 1] [.int .i64 z28, .int .i64 id, .int .i64 (0 : Int), .int .i64 (Prod.fst z47), .int .i64 (0 : Int), .bool false, .int .i64 (0 : Int), .int .i64 (0 : Int), .int .i64 (0 : Int), .float .f64 0, .slice none 0 0, .slice none 0 0] [.int .i64 z28, .int .i64 id, .int .i64 (0 : Int), .int .i64 (Prod.fst z50), .int .i64 (0 : Int), .bool false, .int .i64 (0 : Int), .int .i64 (0 : Int), .int .i64 (0 : Int), .float .f64 0, .slice none 0 0, .slice none 0 0] (.cells [.int .i64 z28, .int .i64 id, .int .i64 (0 : Int), .int .i64 (0 : Int), .int .i64 (0 : Int), .bool false, .int .i64 (0 : Int), .int .i64 (0 : Int), .int .i64 (0 : Int), .float .f64 0, .slice none 0 0, .slice none 0 0]
 true 0) (numF (Lr l) (Prod.snd z3) (4 : Int)) (IntKind.wrap .i64 (Prod.fst z3 * (10 : Int))))) (numF (Lr l) (Prod.snd z33) (4 : Int)) (Br l c && List.all (Lr l) (okA U8) && decide ((0 : Int) ≤ Prod.snd z33) && true) (Int.toNat (Prod.fst z33)) (List.length (Prod.fst z19)) (List.length (Prod.fst z6)) (IntKind.wrap .i64 z36) (Prod.fst (Prod.snd z6)))) (wrL l (Int.toNat (Prod.fst (numF l z37 (2 : Int)) + (1 : Int))) (Prod.snd (numF l z37 (2 : Int))) [] []) (.row .look 1 0 z34 (encL l)) (paL l (Int.toNat (Prod.fst (numF l z37 (3 : Int)) + (1 : Int))) (Prod.snd (numF l z37 (3 : Int))) []) (Br l c && List.all (Lr l) (okA U8) && decide ((0 : Int) ≤ Prod.snd z13) && true) (numF (Lr l) (Prod.snd z13) (9 : Int)) (numF (Lr l) (Prod.snd z13) (12 : Int)) (numF (Lr l) (Prod.snd z13) (3 : Int)) (numF (Lr l) (Prod.snd z13) (2 : Int)) (numF (Lr l) (Prod.snd z13) (4 : Int)) ((1 : Int) + Prod.fst z13))) (.cells [.string (ByteArray.mk #[(110 : UInt8)]), .string (ByteArray.mk #[(120 : UInt8)]), .string (ByteArray.mk #[(114 : UInt8)]), .string (ByteArray.mk #[(107 : UInt8), (91 : UInt8), (48 : UInt8), (93 : UInt8)]), .string (ByteArray.mk #[(107 : UInt8), (91 : UInt8), (49 : UInt8), (93 : UInt8)]), .string (ByteArray.mk #[(111 : UInt8)]), .string (ByteArray.mk #[(97 : UInt8)]), .string (ByteArray.mk #[(98 : UInt8)]), .string (ByteArray.mk #[(122 : UInt8), (122 : UInt8)]), .string (ByteArray.mk #[(107 : UInt8), (91 : UInt8), (57 : UInt8), (93 : UInt8)])] true 1) (.cells [.int .i64 (0 : Int), .int .i64 (0 : Int), .int .i64 (0 : Int), .int .i64 (0 : Int), .int .i64 (0 : Int), .bool false, .int .i64 (0 : Int), .int .i64 (0 : Int), .int .i64 (0 : Int), .float .f64 0, .slice none 0 0, .slice none 0 0] true 0) (.cells [.string (ByteArray.mk #[(107 : UInt8), (91 : UInt8), (48 : UInt8), (93 : UInt8)])] true 1) (.cells [.string (ByteArray.mk #[(107 : UInt8), (91 : UInt8), (49 : UInt8), (93 : UInt8)])] true 1) (.cells [.string (ByteArray.mk #[(107 : UInt8), (91 : UInt8), (57 : UInt8), (93 : UInt8)])] true 1) (.cells [.string (ByteArray.mk #[(122 : UInt8), (122 : UInt8)])] true 1) (.cells [.string (ByteArray.mk #[(110 : UInt8)])] true 1) (.cells [.string (ByteArray.mk #[(120 : UInt8)])] true 1) (.cells [.string (ByteArray.mk #[(114 : UInt8)])] true 1) (.cells [.string (ByteArray.mk #[(111 : UInt8)])] true 1) (.cells [.string (ByteArray.mk #[(97 : UInt8)])] true 1) (.cells [.string (ByteArray.mk #[(98 : UInt8)])] true 1) (numF (Lr l) n (5 : Int)) ⟨1, 0, some 0⟩ l.length (Prod.snd (numF l n (5 : Int))) := by kernel_rfl
structure P1 where
 r : Nat
 n : Int
 ps : List St
def I1 (l : List U8) (r0 : Nat) (n0 : Int) (p : P1) : Prop := PkOk l p.n ∧ p.ps.length + p.r ≤ 100 ∧ paL l p.r p.n p.ps = paL l r0 n0 []
theorem ask1_loop {l : List U8} {c : Nat} {id : Int} {β : Bs} (hβ : β.X.length = 2) (hc : c ≤ 1) {r0 : Nat} {n0 : Int} (hr : r0 ≤ 50) (hp : PkOk l n0) :
  LoopJ Tryz.prog β (exA1 l c id r0 n0) 1 (loopOf Tryz.prog 17 1) (FA1 (r0 : Nat)) (SA1 l c id n0 [] 1) := by
 refine loop_rule (I1 l r0 n0) (fun p : P1 => FA1 (p.r : Nat)) (fun p : P1 => SA1 l c id p.n p.ps 1) (fun p : P1 => p.r) (fun p hI K hK => ?_) ⟨r0, n0, []⟩ ⟨hp, by show 0 + r0 ≤ 100; omega, rfl⟩
 have hK : K (.exit 1) (FA1 0) (SA1 l c id (paL l r0 n0 []).2 (paL l r0 n0 []).1 1) := hK
 show J _ β _ _ _ (Nn β (I1 l r0 n0) (fun p : P1 => p.r) (fun p : P1 => FA1 (p.r : Nat)) (fun p : P1 => SA1 l c id p.n p.ps 1) p K)
 obtain ⟨h1, h2, h3⟩ := hI
 refine rJ_ (E := 2) (lvs := lvsA) (un := fun _ => 0) (fuel := 100) (n := 20) (ex := exA1 l c id r0 n0) follows toldP4_ok hβ (lv := lvA1) ?_
 rw [vc_ask1, Lr_eq, h1.br hc, h1.all, h1.d]
 obtain ⟨r, n, ps⟩ := p
 cases r with
 | zero =>
  refine br_of (fun h => by simp at h) (fun _ => ?_)
  rw [← h3] at hK
  exact Nn.exit (Seen.refl _ _ _) hK
 | succ r =>
  refine br_of (fun _ => ?_) (fun h => by simp at h)
  obtain ⟨k1, k2, k3⟩ := nF_ (m := 10) h1 (by omega)
  have hps : ps.length + (r + 1) ≤ 100 := h2
  refine nd_ rfl (nd_ rfl (nd_ (by simpa using k1) (nd_ (by simp; omega) (nd_ (by simp; omega) (nd_ (by simp; omega) (nd_ (by simp) ?_))))))
  have hw : IntKind.wrap .i64 (((r + 1 : Nat) : Int) - 1) = (r : Int) := by rw [w64 (by omega) (by omega)]; omega
  rw [hw]
  refine Nn.next (I := I1 l r0 n0) (m := fun p : P1 => p.r) (F := fun p : P1 => FA1 (p.r : Nat)) (S := fun p : P1 => SA1 l c id p.n p.ps 1) (p := ⟨r + 1, n, ps⟩) ⟨r, (numF l n 10).2, ps ++ [ptsL.getD (numF l n 10).1.toNat Enc.dflt]⟩ ⟨k3, by show (ps ++ [_]).length + r ≤ 100; rw [List.length_append]; simp; omega, h3⟩ (Nat.lt_succ_self _) ?_
  refine Seen.objs rfl fun q o2 h => ?_
  have hl : (ps ++ [ptsL.getD (numF l n 10).1.toNat Enc.dflt]).length = ps.length + 1 := by simp
  match q, h with
  | 0, h => cases h; exact ⟨_, rfl, rfl, fun _ _ _ h => h⟩
  | 1, h => cases h; exact ⟨_, rfl, rfl, fun _ _ _ h => h⟩
  | 2, h => cases h; exact ⟨_, rfl, rfl, fun _ _ _ h => h⟩
  | 3, h => cases h; exact ⟨_, rfl, rfl, fun _ _ _ h => h⟩
  | 4, h => cases h; exact ⟨_, by rw [hl]; rfl, rfl, fun _ _ _ h => h⟩
  | 5, h => cases h; exact ⟨_, rfl, rfl, fun _ _ _ h => row_app (α := St) rfl rfl (fun _ _ => rfl) (fun j hj => by
    have hj : j < 1 := hj
    have : j = 0 := by omega
    subst this
    rw [Nat.zero_add]; rfl) h⟩
  | _ + 6, h => cases h
structure P2 where
 r : Nat
 n : Int
 ps : List St
 vs : List Vl
theorem wrV_ok {l : List U8} {n : Int} (hp : PkOk l n) : PkOk l (wrV l n).2 := by
 have h1 := (nF_ (m := 6) hp (by omega)).2.2
 have h2 := (nF_ (m := 4) h1 (by omega)).2.2
 unfold wrV
 cases ((numF l n 6).1 == 2) with
 | true => exact pvF_ok 5 h2
 | false => exact h2
def I2 (l : List U8) (r0 : Nat) (n0 : Int) (p : P2) : Prop := PkOk l p.n ∧ p.ps.length + p.r ≤ 100 ∧ p.vs.length + p.r ≤ 100 ∧ wrL l p.r p.n p.ps p.vs = wrL l r0 n0 [] []
def F2 (p : P2) : AFr := FA2 (p.r : Nat)
def S2 (l : List U8) (c : Nat) (id : Int) (p : P2) : ASt := SA2 l c id p.n p.ps 1 p.vs 1
theorem ask2_next {l : List U8} {c : Nat} {id : Int} {β : Bs} {r0 : Nat} {n0 : Int} {r : Nat} {n : Int} {ps : List St} {vs : List Vl} {K : Kt} (hI : I2 l r0 n0 ⟨r + 1, n, ps, vs⟩) {s : ByteArray} {v : Vl} {n' : Int}
  (hs : s = (wpathsL.getD (numF l n 6).1.toNat Enc.dflt).s) (hv : v = (wrV l n).1) (hn : n' = (wrV l n).2) :
  Nn β (I2 l r0 n0) P2.r F2 (S2 l c id) ⟨r + 1, n, ps, vs⟩ K .normal (mkF 102 [(0, .pointer (some ⟨0, 0, none⟩)), (4, .pointer (some ⟨2, 0, none⟩)), (6, .pointer (some ⟨3, 0, none⟩)), (8, .int .i64 (IntKind.wrap .i64 (((r + 1 : Nat) : Int) - 1)))])
   (mkS [some (.cells [.slice (some ⟨1, 0, some 0⟩) l.length c, .int .i64 n'] true 0), some (.row .look 1 0 l.length (encL l)), some (.cells (msC 0 0 (.slice none 0 0) (.slice none 0 0)) true 0),
    some (.cells (msC 2 id (.slice (some ⟨4, 0, some 0⟩) (ps.length + 1) 1) (.slice (some ⟨5, 0, some 0⟩) (vs.length + 1) 1)) true 0),
    some (.row .mine 1 0 (ps.length + 1) fun j k => mrgT (Nat.blt j ps.length) (encL ps (0 + j) k) (selT 1 1 [Td.sc (.string s)] (j - ps.length) k)),
    some (.row .mine 3 0 (vs.length + 1) fun j k => mrgT (Nat.blt j vs.length) (encL vs (0 + j) k) (selT 3 1 [Td.sc (.int .i64 v.k), Td.sc (.int .i64 v.i), Td.sc (.float .f64 v.f)] (j - vs.length) k))]) := by
 subst hs hv hn
 obtain ⟨h1, h2, h3, h4⟩ := hI
 have h2 : ps.length + (r + 1) ≤ 100 := h2
 have h3 : vs.length + (r + 1) ≤ 100 := h3
 have hw : IntKind.wrap .i64 (((r + 1 : Nat) : Int) - 1) = (r : Int) := by rw [w64 (by omega) (by omega)]; omega
 rw [hw]
 refine Nn.next (I := I2 l r0 n0) (m := P2.r) (F := F2) (S := S2 l c id) (p := ⟨r + 1, n, ps, vs⟩) ⟨r, (wrV l n).2, ps ++ [wpathsL.getD (numF l n 6).1.toNat Enc.dflt], vs ++ [(wrV l n).1]⟩ ⟨wrV_ok h1, by show (ps ++ [_]).length + r ≤ 100; rw [List.length_append]; simp; omega, by show (vs ++ [_]).length + r ≤ 100; rw [List.length_append]; simp; omega, h4⟩ (Nat.lt_succ_self _) ?_
 refine Seen.objs rfl fun q o2 h => ?_
 have hl : (ps ++ [wpathsL.getD (numF l n 6).1.toNat Enc.dflt]).length = ps.length + 1 := by simp
 have hl2 : (vs ++ [(wrV l n).1]).length = vs.length + 1 := by simp
 match q, h with
 | 0, h => cases h; exact ⟨_, rfl, rfl, fun _ _ _ h => h⟩
 | 1, h => cases h; exact ⟨_, rfl, rfl, fun _ _ _ h => h⟩
 | 2, h => cases h; exact ⟨_, rfl, rfl, fun _ _ _ h => h⟩
 | 3, h => cases h; exact ⟨_, by rw [hl, hl2]; rfl, rfl, fun _ _ _ h => h⟩
 | 4, h => cases h; exact ⟨_, rfl, rfl, fun _ _ _ h => row_app (α := St) rfl rfl (fun _ _ => rfl) (fun j hj => by
   have hj : j < 1 := hj
   have : j = 0 := by omega
   subst this
   rfl) h⟩
 | 5, h => cases h; exact ⟨_, rfl, rfl, fun _ _ _ h => row_app (α := Vl) rfl rfl (fun _ _ => rfl) (fun j hj => by
   have hj : j < 3 := hj
   match j, hj with
   | 0, _ => rfl
   | 1, _ => rfl
   | 2, _ => rfl) h⟩
 | _ + 6, h => cases h
theorem beq5 {N : Nat} (h : N < 6) (e0 : Nat.beq N 0 = false) (e1 : Nat.beq N 1 = false) (e2 : Nat.beq N 2 = false) (e3 : Nat.beq N 3 = false) (e4 : Nat.beq N 4 = false) : Nat.beq N 5 = true := by
 have n0 := Nat.ne_of_beq_eq_false e0
 have n1 := Nat.ne_of_beq_eq_false e1
 have n2 := Nat.ne_of_beq_eq_false e2
 have n3 := Nat.ne_of_beq_eq_false e3
 have n4 := Nat.ne_of_beq_eq_false e4
 have : N = 5 := by omega
 rw [this]; rfl
theorem need_imp {b : Bool} {K : Prop} (hb : b = true) (h : b = true → K) : need b K := nd_ hb (h hb)
theorem ask2_loop {l : List U8} {c : Nat} {id : Int} {β : Bs} (hβ : β.X.length = 2) (hc : c ≤ 1) {r0 : Nat} {n0 : Int} (hr : r0 ≤ 50) (hp : PkOk l n0) :
  LoopJ Tryz.prog β (exA2 l c id r0 n0) 3 (loopOf Tryz.prog 17 3) (FA2 (r0 : Nat)) (SA2 l c id n0 [] 1 [] 1) := by
 refine loop_rule (I2 l r0 n0) F2 (S2 l c id) P2.r (fun p hI K hK => ?_) ⟨r0, n0, [], []⟩ ⟨hp, by show 0 + r0 ≤ 100; omega, by show 0 + r0 ≤ 100; omega, rfl⟩
 have hK : K (.exit 3) (FA2 0) (SA2 l c id (wrL l r0 n0 [] []).2.2 (wrL l r0 n0 [] []).1 1 (wrL l r0 n0 [] []).2.1 1) := hK
 show J _ β _ _ _ (Nn β (I2 l r0 n0) P2.r F2 (S2 l c id) p K)
 obtain ⟨h1, h2, h3, h4⟩ := hI
 have hI : I2 l r0 n0 p := ⟨h1, h2, h3, h4⟩
 refine rJ_ (E := 2) (lvs := lvsA) (un := fun _ => 0) (fuel := 100) (n := 20) (ex := exA2 l c id r0 n0) follows toldP4_ok hβ (lv := lvA2) ?_
 obtain ⟨r, n, ps, vs⟩ := p
 have hn1 := (nF_ (m := 6) h1 (by omega)).2.2
 have hn2 := (nF_ (m := 4) hn1 (by omega)).2.2
 refine (vc_ask2 l c id r0 n0 n (r : Nat) ps 1 vs 1 β _).mpr ?_
 try dsimp only
 rw [Lr_eq, h1.br hc, h1.all, h1.d, hn1.d, hn2.d]
 cases r with
 | zero =>
  refine br_of (fun h => by simp at h) (fun _ => ?_)
  rw [← h4] at hK
  exact Nn.exit (Seen.refl _ _ _) hK
 | succ r =>
  refine br_of (fun _ => ?_) (fun h => by simp at h)
  obtain ⟨k1, k2, k3⟩ := nF_ (m := 6) h1 (by omega)
  have k1 : 0 ≤ (numF l n 6).1 := k1
  have k2 : (numF l n 6).1 < 6 := k2
  have h2 : ps.length + (r + 1) ≤ 100 := h2
  have h3 : vs.length + (r + 1) ≤ 100 := h3
  have hv1 : ((numF l n 6).1 == 2) = true → pvF l (numF l (numF l n 6).2 4).2 5 = wrV l n := fun h => by unfold wrV; rw [h]; rfl
  have hv2 : ((numF l n 6).1 == 2) = false → ((⟨2, (numF l (numF l n 6).2 4).1, 0⟩, (numF l (numF l n 6).2 4).2) : Vl × Int) = wrV l n := fun h => by unfold wrV; rw [h]; rfl
  have b1 : Nat.ble (ps.length + 1) 1000000 = true := Nat.ble_eq_true_of_le (by omega)
  have b2 : Nat.ble (vs.length + 1) 1000000 = true := Nat.ble_eq_true_of_le (by omega)
  have b3 : (true && Nat.ble (0 + ps.length) ps.length) = true := by simp
  have b4 : (true && Nat.ble (0 + vs.length) vs.length) = true := by simp
  refine nd_ rfl (nd_ (by simpa using k1) ?_)
  have hN : (numF l n 6).1.toNat < 6 := by omega
  refine br_of (fun hi => ?_) (fun e0 => br_of (fun hi => ?_) (fun e1 => br_of (fun hi => ?_) (fun e2 => br_of (fun hi => ?_) (fun e3 => br_of (fun hi => ?_) (fun e4 => need_imp (beq5 hN e0 e1 e2 e3 e4) (fun hi => ?_))))))
  all_goals
   refine nd_ b1 (nd_ b3 (nd_ rfl (br_of (fun hq => nd_ rfl (nd_ b2 (nd_ b4 ?_))) (fun hq => nd_ b2 (nd_ b4 ?_)))))
   ·exact ask2_next (v := (pvF l (numF l (numF l n 6).2 4).2 5).1) (n' := (pvF l (numF l (numF l n 6).2 4).2 5).2) hI (by rw [Nat.eq_of_beq_eq_true hi]; rfl) (congrArg Prod.fst (hv1 hq)) (congrArg Prod.snd (hv1 hq))
   ·exact ask2_next (v := ⟨2, (numF l (numF l n 6).2 4).1, 0⟩) (n' := (numF l (numF l n 6).2 4).2) hI (by rw [Nat.eq_of_beq_eq_true hi]; rfl) (congrArg Prod.fst (hv2 hq)) (congrArg Prod.snd (hv2 hq))
structure PkS where
 b : Bool
 r : AE
 n : Int
 nw : List AObj
inductive PkX where
 | one (s : PkS)
 | br (b : Bool) (x y : PkX)
def PkX.pick : PkX → PkS
 | .one s => s
 | .br b x y => cond b x.pick y.pick
def PkX.toS (k c : Nat) (vw : List (Option AObj)) (b0 : Bool) : PkX → SpT
 | .one s => .one ⟨b0 && s.b, vw, s.r, [.to (pkO k c s.n), .same], s.nw⟩
 | .br b x y => .br b (x.toS k c vw b0) (y.toS k c vw b0)
theorem toS_pick (k c : Nat) (vw : List (Option AObj)) (b0 : Bool) : ∀ t : PkX, (t.toS k c vw b0).pick = ⟨b0 && t.pick.b, vw, t.pick.r, [.to (pkO k c t.pick.n), .same], t.pick.nw⟩
 | .one s => rfl
 | .br b x y => by
  cases b with
  | true => exact toS_pick k c vw b0 x
  | false => exact toS_pick k c vw b0 y
abbrev PkE : Type := List Value → Option (List U8 → Int → PkX)
def spPn (dec : PkE) (args : List Value) (objs : List (Option AObj)) : Option SpT := match args, objs with
 | .pointer (some ⟨0, 0, none⟩) :: xs, [some (.cells [.slice (some ⟨1, 0, some 0⟩) k c, .int .i64 n] true 0), o1] => match dec xs with
  | some F => some ((F (rowL U8 k o1) n).toS k c (viP (rowL U8 k o1) c n) (rowB U8 k c o1 && (rowL U8 k o1).all (okA U8) && decide (0 ≤ n)))
  | none => none
 | _, _ => none
def PkK (l : List U8) (c : Nat) (s : PkS) (K : AE → List (Option AObj) → Prop) : Prop := ∀ (q : List (Option AObj)) (nm : List Nat), nm.length = s.nw.length → nm.Nodup → (∀ x ∈ nm, 2 ≤ x) → 2 ≤ q.length → q[0]? = some (some (pkO l.length c s.n)) →
 (∀ (j x : Nat) o, nm[j]? = some x → s.nw[j]? = some o → q[x]? = some (some (bkO (lkAt 2 nm) o))) → K (bkE (lkAt 2 nm) s.r) q
def q5 (l : List U8) (n : Int) : Int × Int := numF l n 5
def qr1 (l : List U8) (n : Int) : List St × Int := paL l ((numF l (numF l n 5).2 3).1 + 1).toNat (numF l (numF l n 5).2 3).2 []
def qr2 (l : List U8) (n : Int) : List St × List Vl × Int := wrL l ((numF l (numF l n 5).2 2).1 + 1).toNat (numF l (numF l n 5).2 2).2 [] []
def qp (l : List U8) (n : Int) : Int × Int := numF l (numF l n 5).2 9
def qe (l : List U8) (n : Int) : Int × Int := numF l (qp l n).2 4
def qn (l : List U8) (n : Int) : Int × Int := numF l (qe l n).2 4
def qb (l : List U8) (n : Int) : Int × Int := numF l (qn l n).2 2
def qv (l : List U8) (n : Int) : Vl × Int := cond ((qb l n).1 == 0) (pvF l (qb l n).2 2) (⟨0, 0, 0⟩, (qb l n).2)
def am1 (l : List U8) (id n : Int) : Ms := ⟨1, id, 0, 0, 0, false, 0, ⟨0, 0, 0⟩, (qr1 l n).1, 1, [], 1⟩
def am2 (l : List U8) (id n : Int) : Ms := ⟨2, id, 0, 0, 0, false, 0, ⟨0, 0, 0⟩, (qr2 l n).1, 1, (qr2 l n).2.1, 1⟩
def am3 (l : List U8) (id n : Int) : Ms := ⟨3, id, 0, (numF l (numF l n 5).2 12).1, 0, false, 0, ⟨0, 0, 0⟩, [], 1, [], 1⟩
def am4 (l : List U8) (id n : Int) : Ms := ⟨4, id, 0, (qn l n).1, 0, false, (qe l n).1 * 10, (qv l n).1, [ptsL.getD (qp l n).1.toNat Enc.dflt], 0, [], 1⟩
def am5 (l : List U8) (id n : Int) : Ms := ⟨5, id, 0, (numF l (numF l n 5).2 4).1, 0, false, 0, ⟨0, 0, 0⟩, [], 1, [], 1⟩
def askM (l : List U8) (id n : Int) : Ms × Int := cond ((numF l n 5).1 == 0) (am1 l id n, (qr1 l n).2) (cond ((numF l n 5).1 == 1) (am2 l id n, (qr2 l n).2.2) (cond ((numF l n 5).1 == 2) (am3 l id n, (numF l (numF l n 5).2 12).2)
 (cond ((numF l n 5).1 == 3) (am4 l id n, (qv l n).2) (am5 l id n, (numF l (numF l n 5).2 4).2))))
def msCs (m : Ms) (ps vs : Value) : List Value := [.int .i64 m.k, .int .i64 m.id, .int .i64 m.er, .int .i64 m.n, .int .i64 m.sq, .bool m.lo, .int .i64 m.ev, .int .i64 m.bd.k, .int .i64 m.bd.i, .float .f64 m.bd.f, ps, vs]
def as1 (l : List U8) (id n : Int) : PkS := ⟨true, .returned (.agg ⟨msCs (am1 l id n) (.slice (some ⟨2, 0, some 0⟩) (qr1 l n).1.length 1) (.slice none 0 0)⟩), (qr1 l n).2, [rowO .mine (qr1 l n).1]⟩
def as2 (l : List U8) (id n : Int) : PkS := ⟨true, .returned (.agg ⟨msCs (am2 l id n) (.slice (some ⟨2, 0, some 0⟩) (qr2 l n).1.length 1) (.slice (some ⟨3, 0, some 0⟩) (qr2 l n).2.1.length 1)⟩), (qr2 l n).2.2, [rowO .mine (qr2 l n).1, rowO .mine (qr2 l n).2.1]⟩
def as3 (l : List U8) (id n : Int) : PkS := ⟨true, .returned (.agg ⟨msCs (am3 l id n) (.slice none 0 0) (.slice none 0 0)⟩), (numF l (numF l n 5).2 12).2, []⟩
def as4 (l : List U8) (id n : Int) : PkS := ⟨true, .returned (.agg ⟨msCs (am4 l id n) (.slice (some ⟨2, 0, none⟩) 1 1) (.slice none 0 0)⟩), (qv l n).2, [.cells [.string (ptsL.getD (qp l n).1.toNat Enc.dflt).s] true 1]⟩
def as5 (l : List U8) (id n : Int) : PkS := ⟨true, .returned (.agg ⟨msCs (am5 l id n) (.slice none 0 0) (.slice none 0 0)⟩), (numF l (numF l n 5).2 4).2, []⟩
def askX (l : List U8) (id n : Int) : PkX := .br ((numF l n 5).1 == 0) (.one (as1 l id n)) (.br ((numF l n 5).1 == 1) (.one (as2 l id n)) (.br ((numF l n 5).1 == 2) (.one (as3 l id n)) (.br ((numF l n 5).1 == 3) (.one (as4 l id n)) (.one (as5 l id n)))))
theorem k_eq {x : Int} (h1 : 0 ≤ x) (h2 : x < 5) (j : Int) : (IntKind.wrap .i64 (1 + x) == 1 + j) = (x == j) := by
 rw [w64 (by omega) (by omega)]
 rw [Bool.eq_iff_iff, beq_iff_eq, beq_iff_eq]
 omega
theorem ask_seen1 {l : List U8} {c : Nat} {id : Int} {β : Bs} (hβ : β.X.length = 2) {n : Int} {r : Nat} : Seen β (mkF 102 [(0, .pointer (some ⟨0, 0, none⟩)), (4, .pointer (some ⟨2, 0, none⟩)), (5, .slice (some ⟨3, 0, none⟩) 10 10), (6, .pointer (some ⟨4, 0, none⟩)), (7, .int .i64 (r : Nat))])
  (mkS [some (pkO l.length c n), some (rowO .look l), some (.cells (msC 0 0 (.slice none 0 0) (.slice none 0 0)) true 0), some (.cells (ptsL.map fun s => .string s.s) true 1), some (.cells (msC 1 id (.slice none 0 0) (.slice none 0 0)) true 0)]) (FA1 (r : Nat)) (SA1 l c id n [] 1) := by
 refine Seen.trans (Seen.cellsRow (f' := mkF 102 [(0, .pointer (some ⟨0, 0, none⟩)), (4, .pointer (some ⟨2, 0, none⟩)), (5, .slice (some ⟨5, 0, some 0⟩) 10 10), (6, .pointer (some ⟨4, 0, none⟩)), (7, .int .i64 (r : Nat))]) 3 1 0 10 10 5 (cs := ptsL.map fun s => .string s.s) rfl rfl rfl (by decide) (by decide) (by decide) (encL ptsL) (fun i hi j hj => ?_) rfl rfl (fun u v h => ?_)) ?_
 ·have hj : j = 0 := by omega
  subst hj
  match i, hi with
  | 0, _ => exact ⟨_, rfl, rfl⟩
  | 1, _ => exact ⟨_, rfl, rfl⟩
  | 2, _ => exact ⟨_, rfl, rfl⟩
  | 3, _ => exact ⟨_, rfl, rfl⟩
  | 4, _ => exact ⟨_, rfl, rfl⟩
  | 5, _ => exact ⟨_, rfl, rfl⟩
  | 6, _ => exact ⟨_, rfl, rfl⟩
  | 7, _ => exact ⟨_, rfl, rfl⟩
  | 8, _ => exact ⟨_, rfl, rfl⟩
  | 9, _ => exact ⟨_, rfl, rfl⟩
 ·rcases mkFT_get _ _ u v h with h1 | h1
  ·simp only [List.mem_cons, List.mem_nil_iff, or_false, Prod.mk.injEq] at h1
   rcases h1 with ⟨rfl, rfl⟩ | ⟨rfl, rfl⟩ | ⟨rfl, rfl⟩ | ⟨rfl, rfl⟩ | ⟨rfl, rfl⟩
   ·exact .inr rfl
   ·exact .inr rfl
   ·exact .inl ⟨rfl, rfl⟩
   ·exact .inr rfl
   ·exact .inr rfl
  ·cases h1
 ·refine Seen.trans (Seen.void 1 (encL ([] : List St))) ?_
  refine Seen.trans (Seen.objs (l2 := [some (pkO l.length c n), some (rowO .look l), some (.cells (msC 0 0 (.slice none 0 0) (.slice none 0 0)) true 0), none, some (.cells (msC 1 id (.slice (some ⟨6, 0, some 0⟩) 0 1) (.slice none 0 0)) true 0), some (.row .mine 1 0 10 (encL ptsL)), some (.row .mine 1 0 0 (encL ([] : List St)))]) rfl fun q o2 h => ?_) (Seen.canon (E := 2) (slots := slA1) hβ (fun K => by kernel_rfl))
  match q, h with
  | 0, h => cases h; exact ⟨_, rfl, rfl, fun _ _ _ h => h⟩
  | 1, h => cases h; exact ⟨_, rfl, rfl, fun _ _ _ h => h⟩
  | 2, h => cases h; exact ⟨_, rfl, rfl, fun _ _ _ h => h⟩
  | 3, h => cases h
  | 4, h => cases h; exact ⟨_, rfl, rfl, fun _ _ _ h => ObjR.nilCell (j := 10) (k := 6) rfl h⟩
  | 5, h => cases h; exact ⟨_, rfl, rfl, fun _ _ _ h => h⟩
  | 6, h => cases h; exact ⟨_, rfl, rfl, fun _ _ _ h => h⟩
  | _ + 7, h => cases h
theorem ask_seen2 {l : List U8} {c : Nat} {id : Int} {β : Bs} {n : Int} {r : Nat} : Seen β (mkF 102 [(0, .pointer (some ⟨0, 0, none⟩)), (4, .pointer (some ⟨2, 0, none⟩)), (6, .pointer (some ⟨3, 0, none⟩)), (8, .int .i64 (r : Nat))])
  (mkS [some (pkO l.length c n), some (rowO .look l), some (.cells (msC 0 0 (.slice none 0 0) (.slice none 0 0)) true 0), some (.cells (msC 2 id (.slice none 0 0) (.slice none 0 0)) true 0)]) (FA2 (r : Nat)) (SA2 l c id n [] 1 [] 1) := by
 refine Seen.trans (Seen.void 1 (encL ([] : List St))) (Seen.trans (Seen.void 3 (encL ([] : List Vl))) (Seen.objs rfl fun q o2 h => ?_))
 match q, h with
 | 0, h => cases h; exact ⟨_, rfl, rfl, fun _ _ _ h => h⟩
 | 1, h => cases h; exact ⟨_, rfl, rfl, fun _ _ _ h => h⟩
 | 2, h => cases h; exact ⟨_, rfl, rfl, fun _ _ _ h => h⟩
 | 3, h => cases h; exact ⟨_, rfl, rfl, fun _ _ _ h => ObjR.nilCell (j := 11) (k := 5) rfl (ObjR.nilCell (j := 10) (k := 4) rfl h)⟩
 | 4, h => cases h; exact ⟨_, rfl, rfl, fun _ _ _ h => h⟩
 | 5, h => cases h; exact ⟨_, rfl, rfl, fun _ _ _ h => h⟩
 | _ + 6, h => cases h
theorem needB {a b c : Bool} {K : Prop} (ha : a = true) (hb : b = true) (hc : c = true) (h : K) : need (a && b && c && true) K := nd_ (by rw [ha, hb, hc]; rfl) h
theorem ask_law {l : List U8} {n id : Int} {β : Bs} {K : AE → List (Option AObj) → Prop} (hβ : β.X.length = 2) (hp : PkOk l n) {c : Nat} (hc : c ≤ 1) (hK : PkK l c (askX l id n).pick K) :
  lawE Tryz.prog toldP4 100 20 β (fun _ => 0) (cnOf 2 lvsA) (exAk l c id n) 17 [.pointer (some ⟨0, 0, none⟩), .int .i64 id] (mkS (viP l c n)) (outK K) := by
 refine (vc_ask l c n id β K).mpr ?_
 obtain ⟨k1, k2, k3⟩ := nF_ (m := 5) hp (by omega)
 have d0 := hp.d
 have hall := hp.all
 have hbr := hp.br hc
 have d1 := k3.d
 have e1 : (IntKind.wrap .i64 (1 + (numF l n 5).1) == 1) = ((numF l n 5).1 == 0) := k_eq k1 k2 0
 have e2 : (IntKind.wrap .i64 (1 + (numF l n 5).1) == 2) = ((numF l n 5).1 == 1) := k_eq k1 k2 1
 have e3 : (IntKind.wrap .i64 (1 + (numF l n 5).1) == 3) = ((numF l n 5).1 == 2) := k_eq k1 k2 2
 have e4 : (IntKind.wrap .i64 (1 + (numF l n 5).1) == 4) = ((numF l n 5).1 == 3) := k_eq k1 k2 3
 have w5 : IntKind.wrap .i64 (1 + (numF l n 5).1) = 1 + (numF l n 5).1 := w64 (by omega) (by omega)
 rw [Lr_eq, e1, e2, e3, e4]
 refine needB hbr hall d0 (br_of (fun h1 => ?_) (fun h1 => br_of (fun h2 => ?_) (fun h2 => br_of (fun h3 => ?_) (fun h3 => br_of (fun h4 => ?_) (fun h4 => ?_)))))
 ·refine needB hbr hall d1 ?_
  have hs : (askX l id n).pick = as1 l id n := by unfold askX; simp only [PkX.pick, h1, cond_true]
  rw [hs] at hK
  obtain ⟨a1, a2, a3⟩ := nF_ (m := 3) k3 (by omega)
  have hr : IntKind.wrap .i64 ((numF l (numF l n 5).2 3).1 + 1) = ((((numF l (numF l n 5).2 3).1 + 1).toNat : Nat) : Int) := by rw [w64 (by omega) (by omega)]; omega
  have hk : IntKind.wrap .i64 (1 + (numF l n 5).1) = 1 := by rw [w5]; have := eq_of_beq h1; omega
  have hlp := ask1_loop (id := id) hβ hc (r0 := ((numF l (numF l n 5).2 3).1 + 1).toNat) (n0 := (numF l (numF l n 5).2 3).2) (by omega) a3
  rw [hr, hk]
  refine ⟨⟨fun K hK => (LoopJ.seen (ask_seen1 hβ) hlp).ok K hK⟩, hK _ [5] rfl (by simp) (by simp) (by simp) rfl (fun j x o h h2 => ?_)⟩
  match j, h, h2 with
  | 0, h, h2 => cases h; cases h2; rfl
  | j + 1, h, h2 => simp at h
 ·refine needB hbr hall d1 ?_
  have hs : (askX l id n).pick = as2 l id n := by unfold askX; simp only [PkX.pick, h1, h2, cond_true, cond_false]
  rw [hs] at hK
  obtain ⟨a1, a2, a3⟩ := nF_ (m := 2) k3 (by omega)
  have hr : IntKind.wrap .i64 ((numF l (numF l n 5).2 2).1 + 1) = ((((numF l (numF l n 5).2 2).1 + 1).toNat : Nat) : Int) := by rw [w64 (by omega) (by omega)]; omega
  have hk : IntKind.wrap .i64 (1 + (numF l n 5).1) = 2 := by rw [w5]; have := eq_of_beq h2; omega
  have hlp := ask2_loop (id := id) hβ hc (r0 := ((numF l (numF l n 5).2 2).1 + 1).toNat) (n0 := (numF l (numF l n 5).2 2).2) (by omega) a3
  rw [hr, hk]
  refine ⟨⟨fun K hK => (LoopJ.seen ask_seen2 hlp).ok K hK⟩, hK _ [4, 5] rfl (by simp) (by simp) (by simp) rfl (fun j x o h h2 => ?_)⟩
  match j, h, h2 with
  | 0, h, h2 => cases h; cases h2; rfl
  | 1, h, h2 => cases h; cases h2; rfl
  | j + 2, h, h2 => simp at h
 ·refine needB hbr hall d1 ?_
  have hs : (askX l id n).pick = as3 l id n := by unfold askX; simp only [PkX.pick, h1, h2, h3, cond_true, cond_false]
  rw [hs] at hK
  have hk : IntKind.wrap .i64 (1 + (numF l n 5).1) = 3 := by rw [w5]; have := eq_of_beq h3; omega
  rw [hk]
  exact hK _ [] rfl (by simp) (by simp) (by simp) rfl (fun j x o h h2 => by simp at h)
 ·refine needB hbr hall d1 (needB hbr hall d1 ?_)
  have hs : (askX l id n).pick = as4 l id n := by unfold askX; simp only [PkX.pick, h1, h2, h3, h4, cond_true, cond_false]
  rw [hs] at hK
  have hk : IntKind.wrap .i64 (1 + (numF l n 5).1) = 4 := by rw [w5]; have := eq_of_beq h4; omega
  rw [hk]
  obtain ⟨a1, a2, a3⟩ := nF_ (m := 9) k3 (by omega)
  obtain ⟨b1, b2, b3⟩ := nF_ (m := 4) a3 (by omega)
  obtain ⟨c1, c2, c3⟩ := nF_ (m := 4) b3 (by omega)
  obtain ⟨f1, f2, f3⟩ := nF_ (m := 2) c3 (by omega)
  have da := a3.d
  have db := b3.d
  have dc := c3.d
  have df := f3.d
  have he : IntKind.wrap .i64 ((numF l (numF l (numF l n 5).2 9).2 4).1 * 10) = (numF l (numF l (numF l n 5).2 9).2 4).1 * 10 := w64 (by omega) (by omega)
  rw [he]
  refine nd_ (by simpa using a1) ?_
  have leaf : ∀ (bd : Vl × Int), bd = qv l n → ∀ (sx : ByteArray) (i : Nat), Nat.beq (numF l (numF l n 5).2 9).1.toNat i = true → sx = (ptsL.getD i Enc.dflt).s → ∀ q : List (Option AObj), q[0]? = some (some (pkO l.length c bd.2)) → q[7]? = some (some (.cells [.string sx] true 1)) →
    K (.returned (.agg ⟨msCs ⟨4, id, 0, (qn l n).1, 0, false, (qe l n).1 * 10, bd.1, [], 0, [], 1⟩ (.slice (some ⟨7, 0, none⟩) 1 1) (.slice none 0 0)⟩)) q := by
   intro bd hbd sx i hi hsx q h0 h7
   subst hbd
   refine hK q [7] rfl (by simp) (by simp) (by have := (List.getElem?_eq_some_iff.1 h7).1; omega) h0 (fun j x o h h2 => ?_)
   match j, h, h2 with
   | 0, h, h2 =>
    cases h; cases h2
    rw [h7, hsx, ← Nat.eq_of_beq_eq_true hi]; rfl
   | j + 1, h, h2 => simp at h
  have hv1 : ((qb l n).1 == 0) = true → (pvF l (qb l n).2 2) = qv l n := fun h => by unfold qv; rw [h]; rfl
  have hv2 : ((qb l n).1 == 0) = false → ((⟨0, 0, 0⟩, (qb l n).2) : Vl × Int) = qv l n := fun h => by unfold qv; rw [h]; rfl
  refine br_of (fun hi => ?_) (fun e0 => br_of (fun hi => ?_) (fun e1 => br_of (fun hi => ?_) (fun e2 => br_of (fun hi => ?_) (fun e3 => br_of (fun hi => ?_) (fun e4 => br_of (fun hi => ?_) (fun e5 => br_of (fun hi => ?_) (fun e6 => br_of (fun hi => ?_) (fun e7 => br_of (fun hi => ?_) (fun e8 => ?_)))))))))
  rotate_left 9
  ·have : (numF l (numF l n 5).2 9).1.toNat < 9 := by omega
   have n0 := Nat.ne_of_beq_eq_false e0
   have n1 := Nat.ne_of_beq_eq_false e1
   have n2 := Nat.ne_of_beq_eq_false e2
   have n3 := Nat.ne_of_beq_eq_false e3
   have n4 := Nat.ne_of_beq_eq_false e4
   have n5 := Nat.ne_of_beq_eq_false e5
   have n6 := Nat.ne_of_beq_eq_false e6
   have n7 := Nat.ne_of_beq_eq_false e7
   have n8 := Nat.ne_of_beq_eq_false e8
   omega
  all_goals
   refine needB hbr hall da (needB hbr hall da (needB hbr hall db (needB hbr hall db (needB hbr hall dc (br_of (fun hq => needB hbr hall df ?_) (fun hq => ?_))))))
   ·exact leaf _ (hv1 hq) _ _ hi rfl _ rfl rfl
   ·exact leaf _ (hv2 hq) _ _ hi rfl _ rfl rfl
 ·refine needB hbr hall d1 ?_
  have hs : (askX l id n).pick = as5 l id n := by unfold askX; simp only [PkX.pick, h1, h2, h3, h4, cond_false]
  rw [hs] at hK
  have hk : IntKind.wrap .i64 (1 + (numF l n 5).1) = 5 := by
   rw [w5]
   have g1 : (numF l n 5).1 ≠ 0 := by simpa using h1
   have g2 : (numF l n 5).1 ≠ 1 := by simpa using h2
   have g3 : (numF l n 5).1 ≠ 2 := by simpa using h3
   have g4 : (numF l n 5).1 ≠ 3 := by simpa using h4
   omega
  rw [hk]
  exact hK _ [] rfl (by simp) (by simp) (by simp) rfl (fun j x o h h2 => by simp at h)
def msW (m : Ms) (x y : Nat) : List Value := msCs m (.slice (some ⟨x, 0, some 0⟩) m.ps.length 1) (.slice (some ⟨y, 0, some 0⟩) m.vs.length 1)
def askU (l : List U8) (id n : Int) : PkX := .one ⟨true, .returned (.agg ⟨msW (askM l id n).1 2 3⟩), (askM l id n).2, [rowO .mine (askM l id n).1.ps, rowO .mine (askM l id n).1.vs]⟩
def deU : PkE := fun xs => match xs with
 | [.int .i64 id] => some fun l n => askU l id n
 | _ => none
def AskK (l : List U8) (c : Nat) (m : Ms) (n' : Int) (K : AE → List (Option AObj) → Prop) : Prop := ∀ (q l2 : List (Option AObj)) (cs : List Value) (x y : Nat), (∀ β : Bs, β.X.length = 2 → Seen β (slotsF cs) (mkS q) (slotsF (msW m x y)) (mkS l2)) → cs.length = 12 → x ≠ y → 2 ≤ x → 2 ≤ y →
 l2[0]? = some (some (pkO l.length c n')) → l2[x]? = some (some (rowO .mine m.ps)) → l2[y]? = some (some (rowO .mine m.vs)) → K (.returned (.agg ⟨cs⟩)) q
theorem app_get {q t : List (Option AObj)} {x : Nat} {o : Option AObj} (h : q[x]? = some o) : (q ++ t)[x]? = some o := by
 have := (List.getElem?_eq_some_iff.1 h).1
 rw [List.getElem?_append_left this]; exact h
theorem app_last (q : List (Option AObj)) (o : Option AObj) : (q ++ [o])[q.length]? = some o := by simp
theorem askK_none {l : List U8} {c : Nat} (m : Ms) (hp : m.ps = []) (hv : m.vs = []) {n' : Int} {K : AE → List (Option AObj) → Prop} (hK : AskK l c m n' K) {q : List (Option AObj)} (hq : 2 ≤ q.length) (h0 : q[0]? = some (some (pkO l.length c n'))) : K (.returned (.agg ⟨msCs m (.slice none 0 0) (.slice none 0 0)⟩)) q := by
 have hl : (q ++ [some (AObj.row .mine 1 0 0 (encL ([] : List St)))]).length = q.length + 1 := by simp
 refine hK q ((q ++ [some (AObj.row .mine 1 0 0 (encL ([] : List St)))]) ++ [some (AObj.row .mine 3 0 0 (encL ([] : List Vl)))]) (msCs m (.slice none 0 0) (.slice none 0 0)) q.length (q.length + 1) (fun β _ => ?_) rfl (by omega) hq (by omega) (app_get (app_get h0)) ?_ ?_
 ·refine Seen.trans (Seen.void 1 (encL ([] : List St))) (Seen.trans (Seen.nilSlotR (f := slotsF (msCs m (.slice none 0 0) (.slice none 0 0))) (f' := slotsF (msCs m (nilRow q.length) (.slice none 0 0))) 10 q.length rfl rfl rfl fun u v h => slotsF_set (t := 10) (cs := msCs m (.slice none 0 0) (.slice none 0 0)) h) ?_)
  refine Seen.trans (Seen.void 3 (encL ([] : List Vl))) ?_
  unfold msW
  rw [hp, hv]
  exact Seen.nilSlotR (f := slotsF (msCs m (nilRow q.length) (.slice none 0 0))) (f' := slotsF (msCs m (nilRow q.length) (nilRow (q.length + 1)))) 11 (q.length + 1) rfl rfl rfl fun u v h => slotsF_set (t := 11) (cs := msCs m (nilRow q.length) (.slice none 0 0)) h
 ·rw [hp]; exact app_get (app_last _ _)
 ·rw [hv, ← hl]; exact app_last _ _
theorem askK_pk {l : List U8} {c : Nat} {id n : Int} {K : AE → List (Option AObj) → Prop} (hK : AskK l c (askM l id n).1 (askM l id n).2 K) : PkK l c (askX l id n).pick K := by
 cases h1 : ((numF l n 5).1 == 0) with
 | true =>
  have hm : askM l id n = (am1 l id n, (qr1 l n).2) := by unfold askM; rw [h1]; rfl
  have hs : (askX l id n).pick = as1 l id n := by unfold askX; simp only [PkX.pick, h1, cond_true]
  rw [hm] at hK
  rw [hs]
  intro q nm w1 w2 w3 hq w4 w5
  match nm, w1 with
  | [x], _ =>
   have hx := w5 0 x _ rfl rfl
   have hxl := (List.getElem?_eq_some_iff.1 hx).1
   have hx2 : 2 ≤ x := w3 x (by simp)
   exact hK q (q ++ [some (AObj.row .mine 3 0 0 (encL ([] : List Vl)))]) (msCs (am1 l id n) (.slice (some ⟨x, 0, some 0⟩) (qr1 l n).1.length 1) (.slice none 0 0)) x q.length (fun β _ => Seen.trans (Seen.void 3 (encL ([] : List Vl))) (Seen.nilSlotR (f := slotsF (msCs (am1 l id n) (.slice (some ⟨x, 0, some 0⟩) (qr1 l n).1.length 1) (.slice none 0 0))) (f' := slotsF (msW (am1 l id n) x q.length)) 11 q.length rfl rfl rfl fun u v h => slotsF_set (t := 11) (cs := msCs (am1 l id n) (.slice (some ⟨x, 0, some 0⟩) (qr1 l n).1.length 1) (.slice none 0 0)) h)) rfl (by omega) hx2 (by omega) (app_get w4) (app_get hx) (app_last _ _)
 | false =>
  cases h2 : ((numF l n 5).1 == 1) with
  | true =>
   have hm : askM l id n = (am2 l id n, (qr2 l n).2.2) := by unfold askM; rw [h1, h2]; rfl
   have hs : (askX l id n).pick = as2 l id n := by unfold askX; simp only [PkX.pick, h1, h2, cond_true, cond_false]
   rw [hm] at hK
   rw [hs]
   intro q nm w1 w2 w3 hq w4 w5
   match nm, w1 with
   | [x, y], _ =>
    have hx := w5 0 x _ rfl rfl
    have hy := w5 1 y _ rfl rfl
    have hxy : x ≠ y := by simpa using w2
    exact hK q q (msW (am2 l id n) x y) x y (fun β _ => Seen.refl _ _ _) rfl hxy (w3 x (by simp)) (w3 y (by simp)) w4 hx hy
  | false =>
   cases h3 : ((numF l n 5).1 == 2) with
   | true =>
    have hm : askM l id n = (am3 l id n, (numF l (numF l n 5).2 12).2) := by unfold askM; rw [h1, h2, h3]; rfl
    have hs : (askX l id n).pick = as3 l id n := by unfold askX; simp only [PkX.pick, h1, h2, h3, cond_true, cond_false]
    rw [hm] at hK
    rw [hs]
    intro q nm w1 w2 w3 hq w4 w5
    match nm, w1 with
    | [], _ => exact askK_none (am3 l id n) rfl rfl hK hq w4
   | false =>
    cases h4 : ((numF l n 5).1 == 3) with
    | true =>
     have hm : askM l id n = (am4 l id n, (qv l n).2) := by unfold askM; rw [h1, h2, h3, h4]; rfl
     have hs : (askX l id n).pick = as4 l id n := by unfold askX; simp only [PkX.pick, h1, h2, h3, h4, cond_true, cond_false]
     rw [hm] at hK
     rw [hs]
     intro q nm w1 w2 w3 hq w4 w5
     match nm, w1 with
     | [x], _ =>
      have hx := w5 0 x _ rfl rfl
      have hx : q[x]? = some (some (.cells [.string (ptsL.getD (qp l n).1.toNat Enc.dflt).s] true 1)) := hx
      have hxl := (List.getElem?_eq_some_iff.1 hx).1
      have hx2 : 2 ≤ x := w3 x (by simp)
      have hl : (q.set x none ++ [some (AObj.row .mine 1 0 1 (encL [ptsL.getD (qp l n).1.toNat Enc.dflt]))]).length = q.length + 1 := by simp
      refine hK q ((q.set x none ++ [some (AObj.row .mine 1 0 1 (encL [ptsL.getD (qp l n).1.toNat Enc.dflt]))]) ++ [some (AObj.row .mine 3 0 0 (encL ([] : List Vl)))]) (msCs (am4 l id n) (.slice (some ⟨x, 0, none⟩) 1 1) (.slice none 0 0)) q.length (q.length + 1) (fun β _ => ?_) rfl (by omega) hq (by omega) ?_ ?_ ?_
      ·refine Seen.trans (Seen.cellsRow (f' := slotsF (msCs (am4 l id n) (.slice (some ⟨q.length, 0, some 0⟩) 1 1) (.slice none 0 0))) x 1 0 1 1 10 hx rfl rfl (by simp) (by omega) (by omega) (encL [ptsL.getD (qp l n).1.toNat Enc.dflt]) (fun i hi j hj => ?_) rfl rfl (fun u v h => slotsF_set (t := 10) (cs := msCs (am4 l id n) (.slice (some ⟨x, 0, none⟩) 1 1) (.slice none 0 0)) h)) ?_
       ·have hi0 : i = 0 := by omega
        have hj0 : j = 0 := by omega
        subst hi0 hj0
        exact ⟨_, rfl, rfl⟩
       ·refine Seen.trans (Seen.void 3 (encL ([] : List Vl))) ?_
        exact Seen.nilSlotR (f := slotsF (msCs (am4 l id n) (.slice (some ⟨q.length, 0, some 0⟩) 1 1) (.slice none 0 0))) (f' := slotsF (msW (am4 l id n) q.length (q.length + 1))) 11 (q.length + 1) rfl rfl rfl fun u v h => slotsF_set (t := 11) (cs := msCs (am4 l id n) (.slice (some ⟨q.length, 0, some 0⟩) 1 1) (.slice none 0 0)) h
      ·refine app_get (app_get ?_)
       rw [List.getElem?_set_ne (by omega)]; exact w4
      ·refine app_get ?_
       rw [List.getElem?_append_right (by simp)]; simp; rfl
      ·rw [← hl]; exact app_last _ _
    | false =>
     have hm : askM l id n = (am5 l id n, (numF l (numF l n 5).2 4).2) := by unfold askM; rw [h1, h2, h3, h4]; rfl
     have hs : (askX l id n).pick = as5 l id n := by unfold askX; simp only [PkX.pick, h1, h2, h3, h4, cond_true, cond_false]
     rw [hm] at hK
     rw [hs]
     intro q nm w1 w2 w3 hq w4 w5
     match nm, w1 with
     | [], _ => exact askK_none (am5 l id n) rfl rfl hK hq w4
theorem asku_gen {P : Program} {g : FuncId} (h : ∀ (l : List U8) (c : Nat) (id n : Int), PkOk l n → c ≤ 1 → ∃ (C : Told) (fuel k : Nat) (un : Nat → Nat) (lvs : Nat → List Nat) (ex : Nat → Kt → Prop), ToldS P C ∧
  ∀ β : Bs, β.X.length = 2 → ∀ K : AE → List (Option AObj) → Prop, AskK l c (askM l id n).1 (askM l id n).2 K → lawE P C fuel k β un (cnOf 2 lvs) ex g [.pointer (some ⟨0, 0, none⟩), .int .i64 id] (mkS (viP l c n)) (outK K)) : EffOkG outS P g (pickS (spPn deU)) := by
 intro args objs s hs hb
 unfold pickS spPn at hs
 split at hs
 ·rename_i xs k c n o1
  split at hs
  ·rename_i F hd
   unfold deU at hd
   split at hd
   ·rename_i id
    cases hd
    simp only [Option.map_some, Option.some.injEq] at hs
    rw [toS_pick] at hs
    subst hs
    have hb' := hb
    simp only [Bool.and_eq_true] at hb'
    obtain ⟨⟨⟨b1, b2⟩, b3⟩, b4⟩ := hb'
    obtain ⟨l1, m1, c1, v1⟩ := rowB_ok b1
    have hp : PkOk (rowL U8 k o1) n := ⟨b2, by rw [l1]; exact m1, of_decide_eq_true b3⟩
    refine ⟨⟨rfl, fun i o h => ?_⟩, ?_⟩
    ·match i, h with
     | 0, h => cases h; exact ⟨_, by rw [l1]; rfl, fun h => h, fun _ _ _ h => h⟩
     | 1, h => cases h; obtain ⟨q, rfl, hq⟩ := v1; exact ⟨q, rfl, (fun h => by cases h), hq⟩
     | _ + 2, h => simp [viP] at h
    obtain ⟨C, fuel, kk, un, lvs, ex, hC, hl⟩ := h (rowL U8 k o1) c id n hp c1
    refine ⟨C, fuel, kk, un, lvs, ex, hC, fun β hβ => ?_⟩
    generalize hL : rowL U8 k o1 = l at *
    refine hl β hβ (fun r q => ∃ l2, objsR q l2 ∧ ∃ cs f' st2 cs2, r = .returned (.agg ⟨cs⟩) ∧ (∀ β : Bs, β.X.length = 2 → Seen β (slotsF cs) (mkS l2) f' st2) ∧ cs2.length = cs.length ∧ (∀ (i : Nat) v, cs2[i]? = some v → f'.tmps.get i = some v) ∧ effK ⟨rowB U8 k c o1 && l.all (okA U8) && decide (0 ≤ n) && true, viP l c n, .returned (.agg ⟨msW (askM l id n).1 2 3⟩), [.to (pkO k c (askM l id n).2), .same], [rowO .mine (askM l id n).1.ps, rowO .mine (askM l id n).1.vs]⟩ (.returned (.agg ⟨cs2⟩)) st2) (fun q l2 cs x y hsn hlen hxy hx2 hy2 h0 hx hy => ?_)
    refine ⟨q, objsR.refl q, cs, slotsF (msW (askM l id n).1 x y), mkS l2, msW (askM l id n).1 x y, rfl, hsn, by rw [hlen]; rfl, fun i v h => slotsF_get h, [x, y], rfl, by simp [hxy], ?_, rfl, fun i o h => ?_, fun j x' o h h2 => ?_⟩
    ·intro z hz
     rcases List.mem_cons.1 hz with rfl | hz
     ·exact hx2
     ·rcases List.mem_cons.1 hz with rfl | hz
      ·exact hy2
      ·cases hz
    ·match i, h with
     | 0, h => cases h; rw [mkS_get, h0, l1]; rfl
     | 1, h => cases h
     | i + 2, h => simp at h
    ·match j, h, h2 with
     | 0, h, h2 => cases h; cases h2; rw [mkS_get, hx]; rfl
     | 1, h, h2 => cases h; cases h2; rw [mkS_get, hy]; rfl
     | j + 2, h, h2 => simp at h
   ·cases hd
  ·cases hs
 ·cases hs
theorem asku_told : EffOkG outS Tryz.prog 17 (pickS (spPn deU)) :=
 asku_gen fun l c id n hp hc => ⟨toldP4, 100, 20, fun _ => 0, lvsA, exAk l c id n, toldP4_ok, fun β hβ K hK => ask_law hβ hp hc (askK_pk hK)⟩
def toldP5 : Told := toldP4.effT 17 (spPn deU)
theorem toldP5_ok : ToldS Tryz.prog toldP5 := Told.effT_okG soundS follows toldP4_ok asku_told
def amV (m : Ms) (i j : Nat) : Value := .agg ⟨msCs m (.slice (some ⟨i, 0, some 0⟩) m.ps.length m.cps) (.slice (some ⟨j, 0, some 0⟩) m.vs.length m.cvs)⟩
def amC (m : Ms) (i j : Nat) : AObj := .cells (msCs m (.slice (some ⟨i, 0, some 0⟩) m.ps.length m.cps) (.slice (some ⟨j, 0, some 0⟩) m.vs.length m.cvs)) true 0
def samePs (a b : List St) : Bool := (List.range a.length).all fun i => (a.getD i Enc.dflt).s.data.toList == (b.getD i Enc.dflt).s.data.toList
def slSm : List Nat := [2, 3, 5]
def lvSm : AX → List Nat := fun x => match x with
 | .ret => [4]
 | _ => slSm
def viSm (a b : Ms) : List (Option AObj) := [some (rowO .look a.ps), some (rowO .look a.vs), some (rowO .look b.ps), some (rowO .look b.vs)]
def FSm (i : Int) : AFr := mkF 96 [(2, .pointer (some ⟨4, 0, none⟩)), (3, .pointer (some ⟨5, 0, none⟩)), (5, .int .i64 i)]
def SSm (a b : Ms) : ASt := mkS [some (rowO .look a.ps), some (rowO .look a.vs), some (rowO .look b.ps), some (rowO .look b.vs), some (amC a 0 1), some (amC b 2 3)]
def shpSr : AFr := mkF 96 [(4, .bool false)]
def SSr (a b : Ms) : ASt := mkS [some (rowO .look a.ps), some (rowO .look a.vs), some (rowO .look b.ps), some (rowO .look b.vs)]
def exSm (a b : Ms) : Nat → Kt → Prop := fun _ K => (samePs a.ps b.ps = false → K .ret shpSr (SSr a b)) ∧ (samePs a.ps b.ps = true → K (.exit 0) (FSm (Int.ofNat a.ps.length)) (SSm a b))
theorem vc_sm (a b : Ms) (β : Bs) (K : AE → List (Option AObj) → Prop) : lawE Tryz.prog toldP5 100 20 β (fun _ => 0) (cnOf 4 fun _ => slSm) (exSm a b) 12 [amV a 0 1, amV b 2 3] (mkS (viSm a b)) (outK K) =
 (fun (z5 : AE) (z12 z13 z16 z17 z18 z19 : Nat) => ((fun (z3 z4 z6 z7 z8 z9 z10 z11 : AObj) (z14 z15 : Td) => ((fun (z0 : List (Option AObj)) (z1 z2 : Prop) => (br (Ms.k a != Ms.k b) (K z5 z0) (br (Ms.id a != Ms.id b) (K z5 z0) (br (Ms.er a != Ms.er b) (K z5 z0) (br (Ms.n a != Ms.n b) (K z5 z0) (br (Ms.sq a != Ms.sq b) (K z5 z0) (br (!Ms.lo a == Ms.lo b) (K z5 z0) (br (Ms.ev a != Ms.ev b) (K z5 z0) (br (Vl.k (Ms.bd a) == Vl.k (Ms.bd b)) (br (Vl.i (Ms.bd a) == Vl.i (Ms.bd b)) (br (!sameN z18 z19) z1 (need (true && Nat.ble (0 + List.length (Ms.vs a)) z12) (need (true && Nat.ble (0 + List.length (Ms.vs b)) z13) (need (ok2 Vl Vl (fun x x_1 x_2 x_3 => true) [Ta.cell z14, Ta.cell z15]) (br (!sameVs (listT Vl z14) (listT Vl z15)) z2 (br (Int.ofNat z16 != Int.ofNat z17) z2 (LoopJ Tryz.prog β (exSm a b) 0 (loopOf Tryz.prog 12 0) (mkF 96 [(2, .pointer (some ⟨4, 0, none⟩)), (3, .pointer (some ⟨5, 0, none⟩)), (5, .int .i64 (0 : Int))]) (mkS z0) ∧ (samePs (Ms.ps a) (Ms.ps b) = false → K z5 [some z6, some z7, some z8, some z9]) ∧ (samePs (Ms.ps a) (Ms.ps b) = true → K (.returned (.bool true)) z0)))))))) z1) z1))))))))) [some z6, some z7, some z8, some z9, some z3, some z4] (K z5 [some z6, some z7, some z8, some z9, some z3, some z4, some z10, some z11]) (K z5 [some z6, some z7, some z8, some z9, some z3, some z4, some z10, some z11, none]))) (.cells [.int .i64 (Ms.k a), .int .i64 (Ms.id a), .int .i64 (Ms.er a), .int .i64 (Ms.n a), .int .i64 (Ms.sq a), .bool (Ms.lo a), .int .i64 (Ms.ev a), .int .i64 (Vl.k (Ms.bd a)), .int .i64 (Vl.i (Ms.bd a)), .float .f64 z18, .slice (some ⟨0, 0, some 0⟩) z16 (Ms.cps a), .slice (some ⟨1, 0, some 0⟩) z12 (Ms.cvs a)] true 0) (.cells [.int .i64 (Ms.k b), .int .i64 (Ms.id b), .int .i64 (Ms.er b), .int .i64 (Ms.n b), .int .i64 (Ms.sq b), .bool (Ms.lo b), .int .i64 (Ms.ev b), .int .i64 (Vl.k (Ms.bd b)), .int .i64 (Vl.i (Ms.bd b)), .float .f64 z19, .slice (some ⟨2, 0, some 0⟩) z17 (Ms.cps b), .slice (some ⟨3, 0, some 0⟩) z13 (Ms.cvs b)] true 0) (.row .look 1 0 z16 (encL (Ms.ps a))) (.row .look 3 0 z12 (encL (Ms.vs a))) (.row .look 1 0 z17 (encL (Ms.ps b))) (.row .look 3 0 z13 (encL (Ms.vs b))) (.cells [.int .i64 (Vl.k (Ms.bd a)), .int .i64 (Vl.i (Ms.bd a)), .float .f64 z18] true 0) (.cells [.int .i64 (Vl.k (Ms.bd b)), .int .i64 (Vl.i (Ms.bd b)), .float .f64 z19] true 0) (.fr 3 z12 (Ms.cvs a) fun i => encL (Ms.vs a) (0 + i)) (.fr 3 z13 (Ms.cvs b) fun i => encL (Ms.vs b) (0 + i)))) (.returned (.bool false)) (List.length (Ms.vs a)) (List.length (Ms.vs b)) (List.length (Ms.ps a)) (List.length (Ms.ps b)) (Vl.f (Ms.bd a)) (Vl.f (Ms.bd b)) := by kernel_rfl
theorem vc_sm_r (a b : Ms) (i : Int) (β : Bs) (Nx : Kt) : roundJ Tryz.prog toldP5 100 20 β (fun _ => 0) (cnOf 4 fun _ => slSm) (fun _ _ => False) 12 0 4 lvSm (FSm i) (SSm a b) Nx =
 (fun (z1 z2 z3 : Nat) (z4 z5 : AObj) => ((fun (z6 z7 : AObj) => ((fun (z0 : ASt) => (br (decide (i < Int.ofNat z1)) (need (decide ((0 : Int) ≤ i)) (need (Nat.blt (Int.toNat i) z1) (need (Nat.ble 0 z3 && Nat.blt z3 z1) (need (decide ((0 : Int) ≤ i)) (need (Nat.blt (Int.toNat i) z2) (need (Nat.ble 0 z3 && Nat.blt z3 z2) (br (!Array.toList (ByteArray.data (St.s (List.getD (Ms.ps a) z3 Enc.dflt))) == Array.toList (ByteArray.data (St.s (List.getD (Ms.ps b) z3 Enc.dflt)))) (Nx .ret (mkF 96 [(4, .bool false)]) (mkS [some z6, some z4, some z7, some z5])) (Nx .normal (mkF 96 [(2, .pointer (some ⟨4, 0, none⟩)), (3, .pointer (some ⟨5, 0, none⟩)), (5, .int .i64 (IntKind.wrap .i64 (i + (1 : Int))))]) z0)))))))) (Nx (.exit 0) (mkF 96 [(2, .pointer (some ⟨4, 0, none⟩)), (3, .pointer (some ⟨5, 0, none⟩)), (5, .int .i64 i)]) z0))) (mkS [some z6, some z4, some z7, some z5, some (.cells [.int .i64 (Ms.k a), .int .i64 (Ms.id a), .int .i64 (Ms.er a), .int .i64 (Ms.n a), .int .i64 (Ms.sq a), .bool (Ms.lo a), .int .i64 (Ms.ev a), .int .i64 (Vl.k (Ms.bd a)), .int .i64 (Vl.i (Ms.bd a)), .float .f64 (Vl.f (Ms.bd a)), .slice (some ⟨0, 0, some 0⟩) z1 (Ms.cps a), .slice (some ⟨1, 0, some 0⟩) (List.length (Ms.vs a)) (Ms.cvs a)] true 0), some (.cells [.int .i64 (Ms.k b), .int .i64 (Ms.id b), .int .i64 (Ms.er b), .int .i64 (Ms.n b), .int .i64 (Ms.sq b), .bool (Ms.lo b), .int .i64 (Ms.ev b), .int .i64 (Vl.k (Ms.bd b)), .int .i64 (Vl.i (Ms.bd b)), .float .f64 (Vl.f (Ms.bd b)), .slice (some ⟨2, 0, some 0⟩) z2 (Ms.cps b), .slice (some ⟨3, 0, some 0⟩) (List.length (Ms.vs b)) (Ms.cvs b)] true 0)]))) (.row .look 1 0 z1 (encL (Ms.ps a))) (.row .look 1 0 z2 (encL (Ms.ps b))))) (List.length (Ms.ps a)) (List.length (Ms.ps b)) (0 + Int.toNat i) (.row .look 3 0 (List.length (Ms.vs a)) (encL (Ms.vs a))) (.row .look 3 0 (List.length (Ms.vs b)) (encL (Ms.vs b))) := by kernel_rfl
class EncO (α : Type) [Enc α] : Prop where
 lawO : ∀ c : Nat → Td, Enc.ok α c = true → ∀ (w : World) (F : Nat → Prop) (j : Nat) (y : Value), j < Enc.es α → TRo w F (c j) y → TRo w F (Enc.enc (Enc.dec c : α) j) y
 okO : ∀ c : Nat → Td, Enc.ok α c = true → okA α (Enc.dec c : α) = true
theorem okT_allO {α : Type} [Enc α] [EncO α] {t : Td} (h : okT α t = true) : (listT α t).all (okA α) = true := by
 cases t with
 | sc x => cases h
 | fr es n c e =>
  simp only [okT, Bool.or_eq_true, Bool.and_eq_true] at h
  rw [List.all_eq_true]
  show ∀ x ∈ (decL n e : List α), okA α x = true
  intro x hx
  obtain ⟨i, hi, rfl⟩ := List.getElem_of_mem hx
  rw [decL_len] at hi
  have h3 : (decL n e : List α)[i]'(by rw [decL_len]; exact hi) = Enc.dec (e i) := by
   have := decL_get (α := α) (e := e) hi
   rw [← this]
   simp [List.getD, decL_len, hi]
  rw [h3]
  rcases h with h | h
  ·exact EncO.okO _ (okL_at h.1.1.2 hi)
  ·have := Nat.eq_of_beq_eq_true h.1
   omega
def encTs {α : Type} [Enc α] (x : α) : List Td := (List.range (Enc.es α)).map (Enc.enc x)
theorem encTs_pw {α : Type} [Enc α] [EncO α] {cs : List Td} {w : World} {F : Nat → Prop} {ys : List Value} (hl : cs.length = Enc.es α) (h : Enc.ok α (nthT cs) = true) (hp : PW (TRo w F) cs ys) : PW (TRo w F) (encTs (Enc.dec (nthT cs) : α)) ys := by
 refine ⟨by simp only [encTs, List.length_map, List.length_range]; rw [← hl]; exact hp.1, fun i a b ha hb => ?_⟩
 simp only [encTs, List.getElem?_map] at ha
 obtain ⟨j, hj, rfl⟩ := Option.map_eq_some_iff.1 ha
 have hji : j = i ∧ i < Enc.es α := by
  rw [List.getElem?_eq_some_iff] at hj
  obtain ⟨h1, h2⟩ := hj
  simp at h1 h2
  exact ⟨h2.symm, h1⟩
 obtain ⟨rfl, hlt⟩ := hji
 have hc : cs[j]? = some (cs[j]'(by omega)) := List.getElem?_eq_getElem (by omega)
 refine EncO.lawO _ h w F j b hlt ?_
 rw [nthT_eq cs j _ hc]
 exact hp.2 j _ _ hc hb
def okS1 (α : Type) [Enc α] (p : α → Bool) (ts : List Ta) : Bool := match ts with
 | [.agg cs] => Nat.beq cs.length (Enc.es α) && Enc.ok α (nthT cs) && p (Enc.dec (nthT cs))
 | _ => false
def ansS1 (α : Type) [Enc α] (A : α → Ans) (ts : List Ta) : Ans := match ts with
 | [.agg cs] => A (Enc.dec (nthT cs))
 | _ => .pan .nilIface
theorem toldS1 {P : Program} {g : FuncId} {α : Type} [Enc α] [EncO α] {p : α → Bool} {A : α → Ans} (hm : P.follows .mixedOrders = true)
  (h : ∀ x : α, okA α x = true → p x = true → ∃ (C : Told) (fuel n : Nat) (un : Nat → Nat) (lvs : Nat → List Nat) (ex : Nat → Kt → Prop), ToldS P C ∧ ∀ β : Bs, β.X.length = (layA [.agg (encTs x)] 0).2.length → lawE P C fuel n β un (cnOf (layA [.agg (encTs x)] 0).2.length lvs) ex g (layA [.agg (encTs x)] 0).1 (mkS ((layA [.agg (encTs x)] 0).2.map some)) (outR (ansE (A x)))) : ToldW P g (okS1 α p) (ansS1 α A) := by
 intro ts hok w args' F hF ha
 unfold okS1 at hok
 split at hok
 ·rename_i cs
  simp only [Bool.and_eq_true] at hok
  obtain ⟨⟨h1, h2⟩, h3⟩ := hok
  have h1 := Nat.eq_of_beq_eq_true h1
  obtain ⟨y, m, e, ⟨arr, rfl, hy⟩, hm'⟩ := ha.uncons
  have := hm'.nil_inv
  subst this
  have ha' : PW (TaR w F) [.agg (encTs (Enc.dec (nthT cs) : α))] args'.toList := by rw [e]; exact PW.cons ⟨arr, rfl, encTs_pw h1 h2 hy⟩ (PW.nil _)
  exact toldW_out (ts := [.agg (encTs (Enc.dec (nthT cs) : α))]) hm (h _ (EncO.okO _ h2) h3) w args' F hF ha'
 ·cases hok
def okS2 (α : Type) [Enc α] (p : α → α → Bool) (ts : List Ta) : Bool := match ts with
 | [.agg cs, .agg ds] => Nat.beq cs.length (Enc.es α) && Nat.beq ds.length (Enc.es α) && Enc.ok α (nthT cs) && Enc.ok α (nthT ds) && p (Enc.dec (nthT cs)) (Enc.dec (nthT ds))
 | _ => false
def ansS2 (α : Type) [Enc α] (A : α → α → Ans) (ts : List Ta) : Ans := match ts with
 | [.agg cs, .agg ds] => A (Enc.dec (nthT cs)) (Enc.dec (nthT ds))
 | _ => .pan .nilIface
theorem toldS2 {P : Program} {g : FuncId} {α : Type} [Enc α] [EncO α] {p : α → α → Bool} {A : α → α → Ans} (hm : P.follows .mixedOrders = true)
  (h : ∀ x z : α, okA α x = true → okA α z = true → p x z = true → ∃ (C : Told) (fuel n : Nat) (un : Nat → Nat) (lvs : Nat → List Nat) (ex : Nat → Kt → Prop), ToldS P C ∧ ∀ β : Bs, β.X.length = (layA [.agg (encTs x), .agg (encTs z)] 0).2.length → lawE P C fuel n β un (cnOf (layA [.agg (encTs x), .agg (encTs z)] 0).2.length lvs) ex g (layA [.agg (encTs x), .agg (encTs z)] 0).1 (mkS ((layA [.agg (encTs x), .agg (encTs z)] 0).2.map some)) (outR (ansE (A x z)))) : ToldW P g (okS2 α p) (ansS2 α A) := by
 intro ts hok w args' F hF ha
 unfold okS2 at hok
 split at hok
 ·rename_i cs ds
  simp only [Bool.and_eq_true] at hok
  obtain ⟨⟨⟨⟨h1, g1⟩, h2⟩, g2⟩, h3⟩ := hok
  have h1 := Nat.eq_of_beq_eq_true h1
  have g1 := Nat.eq_of_beq_eq_true g1
  obtain ⟨y, m, e, ⟨arr, rfl, hy⟩, hm'⟩ := ha.uncons
  obtain ⟨z, m2, e2, ⟨arr2, rfl, hz⟩, hm2⟩ := hm'.uncons
  have := hm2.nil_inv
  subst this e2
  have ha' : PW (TaR w F) [.agg (encTs (Enc.dec (nthT cs) : α)), .agg (encTs (Enc.dec (nthT ds) : α))] args'.toList := by rw [e]; exact PW.cons ⟨arr, rfl, encTs_pw h1 h2 hy⟩ (PW.cons ⟨arr2, rfl, encTs_pw g1 g2 hz⟩ (PW.nil _))
  exact toldW_out (ts := [.agg (encTs (Enc.dec (nthT cs) : α)), .agg (encTs (Enc.dec (nthT ds) : α))]) hm (h _ _ (EncO.okO _ h2) (EncO.okO _ g2) h3) w args' F hF ha'
 ·cases hok
instance : EncO Vl where
 lawO c h w F j y hj ht := by
  have h : vlOk c = true := h
  match j, hj with
  | 0, _ => rw [(vlOk_inv h).1] at ht; exact ht
  | 1, _ => rw [(vlOk_inv h).2.1] at ht; exact ht
  | 2, _ => rw [(vlOk_inv h).2.2] at ht; exact ht
 okO c h := rfl
instance : EncO U8 where
 lawO c h w F j y hj ht := by
  have h : u8Ok c = true := h
  have hj : j < 1 := hj
  have : j = 0 := by omega
  subst this
  rw [(u8Ok_inv h).1] at ht
  exact ht
 okO c h := by
  have h : u8Ok c = true := h
  have := (u8Ok_inv h).2
  show (decide (0 ≤ (u8D c).v) && decide ((u8D c).v < 256)) = true
  simpa using this
theorem st_lawO {c : Nat → Td} (h : stOk c = true) (w : World) (F : Nat → Prop) (j : Nat) (y : Value) (hj : j < 1) (ht : TRo w F (c j) y) : TRo w F (stE (stD c) j) y := by
 have h0 := h
 match j, hj with
 | 0, _ => rw [strOk_inv h0] at ht; exact ht
instance : EncO St where
 lawO c h w F j y hj ht := st_lawO h w F j y hj ht
 okO c h := rfl
theorem ms_lawO {c : Nat → Td} (h : msOk c = true) (w : World) (F : Nat → Prop) (j : Nat) (y : Value) (hj : j < 12) (ht : TRo w F (c j) y) : TRo w F (msE (msD c) j) y := by
 simp only [msOk, Bool.and_eq_true] at h
 obtain ⟨⟨⟨⟨⟨⟨⟨⟨⟨⟨⟨h0, h1⟩, h2⟩, h3⟩, h4⟩, h5⟩, h6⟩, h7⟩, h8⟩, h9⟩, h10⟩, h11⟩ := h
 match j, hj with
 | 0, _ => rw [iI_ h0] at ht; exact ht
 | 1, _ => rw [iI_ h1] at ht; exact ht
 | 2, _ => rw [iI_ h2] at ht; exact ht
 | 3, _ => rw [iI_ h3] at ht; exact ht
 | 4, _ => rw [iI_ h4] at ht; exact ht
 | 5, _ => rw [bI_ h5] at ht; exact ht
 | 6, _ => rw [iI_ h6] at ht; exact ht
 | 7, _ => rw [iI_ h7] at ht; exact ht
 | 8, _ => rw [iI_ h8] at ht; exact ht
 | 9, _ => rw [fI_ h9] at ht; exact ht
 | 10, _ => exact okT_TRo (α := St) h10 ht
 | 11, _ => exact okT_TRo (α := Vl) h11 ht
instance : EncO Ms where
 lawO c h w F j y hj ht := ms_lawO h w F j y hj ht
 okO c h := by
  have h : msOk c = true := h
  simp only [msOk, Bool.and_eq_true] at h
  obtain ⟨⟨⟨⟨⟨⟨⟨⟨⟨⟨⟨h0, h1⟩, h2⟩, h3⟩, h4⟩, h5⟩, h6⟩, h7⟩, h8⟩, h9⟩, h10⟩, h11⟩ := h
  exact okA_ms (okT_allO h10) (okT_len h10).1 (okT_len h10).2 (okT_allO h11) (okT_len h11).1 (okT_len h11).2
theorem im_lawO {c : Nat → Td} (h : imOk c = true) (w : World) (F : Nat → Prop) (j : Nat) (y : Value) (hj : j < 5) (ht : TRo w F (c j) y) : TRo w F (imE (imD c) j) y := by
 simp only [imOk, Bool.and_eq_true] at h
 obtain ⟨⟨⟨⟨h0, h1⟩, h2⟩, h3⟩, h4⟩ := h
 match j, hj with
 | 0, _ => rw [iI_ h0] at ht; exact ht
 | 1, _ => rw [iI_ h1] at ht; exact ht
 | 2, _ => rw [iI_ h2] at ht; exact ht
 | 3, _ => rw [fI_ h3] at ht; exact ht
 | 4, _ => rw [bI_ h4] at ht; exact ht
instance : EncO Im where
 lawO c h w F j y hj ht := im_lawO h w F j y hj ht
 okO c h := rfl
theorem wt_lawO {c : Nat → Td} (h : wtOk c = true) (w : World) (F : Nat → Prop) (j : Nat) (y : Value) (hj : j < 15) (ht : TRo w F (c j) y) : TRo w F (wtE (wtD c) j) y := by
 simp only [wtOk, Bool.and_eq_true] at h
 obtain ⟨⟨⟨⟨⟨⟨⟨⟨⟨⟨⟨⟨⟨⟨h0, h1⟩, h2⟩, h3⟩, h4⟩, h5⟩, h6⟩, h7⟩, h8⟩, h9⟩, h10⟩, h11⟩, h12⟩, h13⟩, h14⟩ := h
 match j, hj with
 | 0, _ => rw [iI_ h0] at ht; exact ht
 | 1, _ => rw [iI_ h1] at ht; exact ht
 | 2, _ => rw [iI_ h2] at ht; exact ht
 | 3, _ => rw [iI_ h3] at ht; exact ht
 | 4, _ => rw [iI_ h4] at ht; exact ht
 | 5, _ => rw [iI_ h5] at ht; exact ht
 | 6, _ => rw [fI_ h6] at ht; exact ht
 | 7, _ => rw [iI_ h7] at ht; exact ht
 | 8, _ => rw [bI_ h8] at ht; exact ht
 | 9, _ => rw [bI_ h9] at ht; exact ht
 | 10, _ => rw [iI_ h10] at ht; exact ht
 | 11, _ => rw [iI_ h11] at ht; exact ht
 | 12, _ => rw [fI_ h12] at ht; exact ht
 | 13, _ => rw [iI_ h13] at ht; exact ht
 | 14, _ => exact okT_TRo (α := Im) h14 ht
instance : EncO Wt where
 lawO c h w F j y hj ht := wt_lawO h w F j y hj ht
 okO c h := by
  have h : wtOk c = true := h
  simp only [wtOk, Bool.and_eq_true] at h
  obtain ⟨⟨⟨⟨⟨⟨⟨⟨⟨⟨⟨⟨⟨⟨h0, h1⟩, h2⟩, h3⟩, h4⟩, h5⟩, h6⟩, h7⟩, h8⟩, h9⟩, h10⟩, h11⟩, h12⟩, h13⟩, h14⟩ := h
  exact okA_wt (okT_allO h14) (okT_len h14).1 (okT_len h14).2
theorem ss_lawO {c : Nat → Td} (h : ssOk c = true) (w : World) (F : Nat → Prop) (j : Nat) (y : Value) (hj : j < 8) (ht : TRo w F (c j) y) : TRo w F (ssE (ssD c) j) y := by
 simp only [ssOk, Bool.and_eq_true] at h
 obtain ⟨⟨⟨⟨⟨⟨⟨h0, h1⟩, h2⟩, h3⟩, h4⟩, h5⟩, h6⟩, h7⟩ := h
 match j, hj with
 | 0, _ => rw [bI_ h0] at ht; exact ht
 | 1, _ => rw [iI_ h1] at ht; exact ht
 | 2, _ => exact okT_TRo (α := U8) h2 ht
 | 3, _ => rw [bI_ h3] at ht; exact ht
 | 4, _ => exact okT_TRo (α := Ms) h4 ht
 | 5, _ => exact okT_TRo (α := Ms) h5 ht
 | 6, _ => exact okT_TRo (α := Wt) h6 ht
 | 7, _ => rw [iI_ h7] at ht; exact ht
instance : EncO Ss where
 lawO c h w F j y hj ht := ss_lawO h w F j y hj ht
 okO c h := by
  have h : ssOk c = true := h
  simp only [ssOk, Bool.and_eq_true] at h
  obtain ⟨⟨⟨⟨⟨⟨⟨h0, h1⟩, h2⟩, h3⟩, h4⟩, h5⟩, h6⟩, h7⟩ := h
  exact okA_ss (okT_allO h2) (okT_len h2).1 (okT_len h2).2 (okT_allO h4) (okT_len h4).1 (okT_len h4).2 (okT_allO h5) (okT_len h5).1 (okT_len h5).2 (okT_allO h6) (okT_len h6).1 (okT_len h6).2
end Go.Proofs.YtachglcffimmeaaGreat.Ev
