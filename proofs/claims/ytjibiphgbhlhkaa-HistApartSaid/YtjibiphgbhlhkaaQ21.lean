/-
  What has to hold: printed by the evaluator.
-/
import Derived.Test.YtjibiphgbhlhkaaQ20
import Derived.Test.YtjibiphgbhlhkaaEff
set_option linter.unusedVariables false
set_option linter.unusedSimpArgs false
section
set_option maxRecDepth 1000000
namespace Go.Proofs.Ytjibiphgbhlhkaa.Ev
open Go Go.Proofs
def slKo : List Nat := [3, 19, 20, 21]
def lvKo : AX → List Nat := fun _ => slKo
def unK (b : Nat) : Nat := cond (Nat.beq b 0) 0 10
def FKo (m : List Vl) (B : List U8) (c : Nat) (i : Int) : AFr := mkF 54 [(3, .slice (some ⟨1, 0, some 0⟩) B.length 3), (19, .slice (some ⟨0, 0, some 0⟩) m.length c), (20, .int .i64 (Int.ofNat m.length)), (21, .int .i64 i)]
def SKo (m : List Vl) (B : List U8) : ASt := mkS [some (rowO .look m), some (rowO .mine B)]
def ky0 (at_ dn : Int) : List U8 := [⟨IntKind.wrap .u8 at_⟩, ⟨IntKind.wrap .u8 dn⟩, ⟨IntKind.wrap .u8 (Int.fdiv dn 256)⟩]
def ky3 (v : Vl) (d : Int) : List U8 := [⟨IntKind.wrap .u8 (Int.fdiv v.k d)⟩, ⟨IntKind.wrap .u8 (Int.fdiv v.i d)⟩, ⟨IntKind.wrap .u8 (Int.fdiv (Int.ofNat (bitsN v.f)) d)⟩]
def kyV (v : Vl) : List U8 := ky3 v 1 ++ (ky3 v 256 ++ (ky3 v 65536 ++ (ky3 v 16777216 ++ (ky3 v 4294967296 ++ (ky3 v 1099511627776 ++ (ky3 v 281474976710656 ++ ky3 v 72057594037927936))))))
def kyL (at_ dn : Int) (m : List Vl) : Nat → List U8
 | 0 => ky0 at_ dn
 | k + 1 => kyL at_ dn m k ++ kyV (m.getD k Enc.dflt)
def exKy (at_ dn : Int) (m : List Vl) (c : Nat) : Nat → Kt → Prop := fun b K => K (.exit b) (FKo m (kyL at_ dn m m.length) c m.length) (SKo m (kyL at_ dn m m.length))
theorem vc_ke (at_ dn : Int) (bd : Bool) (m : List Vl) (c : Nat) (β : Bs) (K : AE → ASt → Prop) : lawE Try.prog toldT 100 20 β unK (cnOf 1 fun _ => slKo) (exKy at_ dn m c) 20 [.agg ⟨[.int .i64 at_, .int .u64 dn, .bool bd, .slice (some ⟨0, 0, some 0⟩) m.length c]⟩] (mkS [some (rowO .look m)]) K =
 (LoopJ Try.prog β (exKy at_ dn m c) 0 (loopOf Try.prog 20 0) (mkF 54 [(3, .slice (some ⟨1, 0, none⟩) 3 3), (19, .slice (some ⟨0, 0, some 0⟩) m.length c), (20, .int .i64 (Int.ofNat m.length)), (21, .int .i64 (0 : Int))]) (mkS [some (.row .look 3 0 m.length (encL m)), some (.cells [.int .u8 (IntKind.wrap .u8 at_), .int .u8 (IntKind.wrap .u8 dn), .int .u8 (IntKind.wrap .u8 (Int.fdiv dn (256 : Int)))] true 1)]) ∧ need (true && Nat.ble (0 + List.length (kyL at_ dn m m.length)) (List.length (kyL at_ dn m m.length))) (need (allB (List.length (kyL at_ dn m m.length)) fun j => encL (kyL at_ dn m m.length) (0 + j)) (K (.returned (.string (strOf (List.length (kyL at_ dn m m.length)) fun j => encL (kyL at_ dn m m.length) (0 + j)))) (SKo m (kyL at_ dn m m.length))))) := by kernel_rfl
theorem vc_ke_r (m : List Vl) (B : List U8) (c : Nat) (i : Int) (β : Bs) (N : Kt) (ex : Nat → Kt → Prop) : roundJ Try.prog toldT 100 20 β unK (cnOf 1 fun _ => slKo) ex 20 0 1 lvKo (FKo m B c i) (SKo m B) N =
 (br (decide (i < Int.ofNat m.length)) (need (decide ((0 : Int) ≤ i)) (need (Nat.blt (Int.toNat i) m.length) (need (Nat.ble 0 (0 + Int.toNat i) && Nat.blt (0 + Int.toNat i) m.length) (need (Nat.ble (List.length B + 3) 1000000) (need (true && Nat.ble (0 + List.length B) B.length) (need (Nat.ble (List.length B + 3 + 3) 1000000) (need (true && Nat.ble (0 + (List.length B + 3)) (List.length B + 3)) (need (Nat.ble (List.length B + 3 + 3 + 3) 1000000) (need (true && Nat.ble (0 + (List.length B + 3 + 3)) (List.length B + 3 + 3)) (need (Nat.ble (List.length B + 3 + 3 + 3 + 3) 1000000) (need (true && Nat.ble (0 + (List.length B + 3 + 3 + 3)) (List.length B + 3 + 3 + 3)) (need (Nat.ble (List.length B + 3 + 3 + 3 + 3 + 3) 1000000) (need (true && Nat.ble (0 + (List.length B + 3 + 3 + 3 + 3)) (List.length B + 3 + 3 + 3 + 3)) (need (Nat.ble (List.length B + 3 + 3 + 3 + 3 + 3 + 3) 1000000) (need (true && Nat.ble (0 + (List.length B + 3 + 3 + 3 + 3 + 3)) (List.length B + 3 + 3 + 3 + 3 + 3)) (need (Nat.ble (List.length B + 3 + 3 + 3 + 3 + 3 + 3 + 3) 1000000) (need (true && Nat.ble (0 + (List.length B + 3 + 3 + 3 + 3 + 3 + 3)) (List.length B + 3 + 3 + 3 + 3 + 3 + 3)) (need (Nat.ble (List.length B + 3 + 3 + 3 + 3 + 3 + 3 + 3 + 3) 1000000) (need (true && Nat.ble (0 + (List.length B + 3 + 3 + 3 + 3 + 3 + 3 + 3)) (List.length B + 3 + 3 + 3 + 3 + 3 + 3 + 3)) (N .normal (mkF 54 [(3, .slice (some ⟨1, 0, some 0⟩) (List.length B + 3 + 3 + 3 + 3 + 3 + 3 + 3 + 3) 3), (19, .slice (some ⟨0, 0, some 0⟩) m.length c), (20, .int .i64 (Int.ofNat m.length)), (21, .int .i64 (IntKind.wrap .i64 (i + (1 : Int))))]) (mkS [some (.row .look 3 0 m.length (encL m)), some (.row .mine 1 0 (List.length B + 3 + 3 + 3 + 3 + 3 + 3 + 3 + 3) fun j k => mrgT (Nat.blt j (List.length B + 3 + 3 + 3 + 3 + 3 + 3 + 3)) (mrgT (Nat.blt (0 + j) (List.length B + 3 + 3 + 3 + 3 + 3 + 3)) (mrgT (Nat.blt (0 + (0 + j)) (List.length B + 3 + 3 + 3 + 3 + 3)) (mrgT (Nat.blt (0 + (0 + (0 + j))) (List.length B + 3 + 3 + 3 + 3)) (mrgT (Nat.blt (0 + (0 + (0 + (0 + j)))) (List.length B + 3 + 3 + 3)) (mrgT (Nat.blt (0 + (0 + (0 + (0 + (0 + j))))) (List.length B + 3 + 3)) (mrgT (Nat.blt (0 + (0 + (0 + (0 + (0 + (0 + j)))))) (List.length B + 3)) (mrgT (Nat.blt (0 + (0 + (0 + (0 + (0 + (0 + (0 + j))))))) B.length) (encL B (0 + (0 + (0 + (0 + (0 + (0 + (0 + (0 + j)))))))) k) (selT 1 3 [.sc (.int .u8 (IntKind.wrap .u8 (Int.fdiv (Vl.k (List.getD m (0 + Int.toNat i) Enc.dflt)) (1 : Int)))), .sc (.int .u8 (IntKind.wrap .u8 (Int.fdiv (Vl.i (List.getD m (0 + Int.toNat i) Enc.dflt)) (1 : Int)))), .sc (.int .u8 (IntKind.wrap .u8 (Int.fdiv (Int.ofNat (bitsN (Vl.f (List.getD m (0 + Int.toNat i) Enc.dflt)))) (1 : Int))))] (0 + (0 + (0 + (0 + (0 + (0 + (0 + j)))))) - List.length B) k)) (selT 1 3 [.sc (.int .u8 (IntKind.wrap .u8 (Int.fdiv (Vl.k (List.getD m (0 + Int.toNat i) Enc.dflt)) (256 : Int)))), .sc (.int .u8 (IntKind.wrap .u8 (Int.fdiv (Vl.i (List.getD m (0 + Int.toNat i) Enc.dflt)) (256 : Int)))), .sc (.int .u8 (IntKind.wrap .u8 (Int.fdiv (Int.ofNat (bitsN (Vl.f (List.getD m (0 + Int.toNat i) Enc.dflt)))) (256 : Int))))] (0 + (0 + (0 + (0 + (0 + (0 + j))))) - (List.length B + 3)) k)) (selT 1 3 [.sc (.int .u8 (IntKind.wrap .u8 (Int.fdiv (Vl.k (List.getD m (0 + Int.toNat i) Enc.dflt)) (65536 : Int)))), .sc (.int .u8 (IntKind.wrap .u8 (Int.fdiv (Vl.i (List.getD m (0 + Int.toNat i) Enc.dflt)) (65536 : Int)))), .sc (.int .u8 (IntKind.wrap .u8 (Int.fdiv (Int.ofNat (bitsN (Vl.f (List.getD m (0 + Int.toNat i) Enc.dflt)))) (65536 : Int))))] (0 + (0 + (0 + (0 + (0 + j)))) - (List.length B + 3 + 3)) k)) (selT 1 3 [.sc (.int .u8 (IntKind.wrap .u8 (Int.fdiv (Vl.k (List.getD m (0 + Int.toNat i) Enc.dflt)) (16777216 : Int)))), .sc (.int .u8 (IntKind.wrap .u8 (Int.fdiv (Vl.i (List.getD m (0 + Int.toNat i) Enc.dflt)) (16777216 : Int)))), .sc (.int .u8 (IntKind.wrap .u8 (Int.fdiv (Int.ofNat (bitsN (Vl.f (List.getD m (0 + Int.toNat i) Enc.dflt)))) (16777216 : Int))))] (0 + (0 + (0 + (0 + j))) - (List.length B + 3 + 3 + 3)) k)) (selT
 1 3 [.sc (.int .u8 (IntKind.wrap .u8 (Int.fdiv (Vl.k (List.getD m (0 + Int.toNat i) Enc.dflt)) (4294967296 : Int)))), .sc (.int .u8 (IntKind.wrap .u8 (Int.fdiv (Vl.i (List.getD m (0 + Int.toNat i) Enc.dflt)) (4294967296 : Int)))), .sc (.int .u8 (IntKind.wrap .u8 (Int.fdiv (Int.ofNat (bitsN (Vl.f (List.getD m (0 + Int.toNat i) Enc.dflt)))) (4294967296 : Int))))] (0 + (0 + (0 + j)) - (List.length B + 3 + 3 + 3 + 3)) k)) (selT 1 3 [.sc (.int .u8 (IntKind.wrap .u8 (Int.fdiv (Vl.k (List.getD m (0 + Int.toNat i) Enc.dflt)) (1099511627776 : Int)))), .sc (.int .u8 (IntKind.wrap .u8 (Int.fdiv (Vl.i (List.getD m (0 + Int.toNat i) Enc.dflt)) (1099511627776 : Int)))), .sc (.int .u8 (IntKind.wrap .u8 (Int.fdiv (Int.ofNat (bitsN (Vl.f (List.getD m (0 + Int.toNat i) Enc.dflt)))) (1099511627776 : Int))))] (0 + (0 + j) - (List.length B + 3 + 3 + 3 + 3 + 3)) k)) (selT 1 3 [.sc (.int .u8 (IntKind.wrap .u8 (Int.fdiv (Vl.k (List.getD m (0 + Int.toNat i) Enc.dflt)) (281474976710656 : Int)))), .sc (.int .u8 (IntKind.wrap .u8 (Int.fdiv (Vl.i (List.getD m (0 + Int.toNat i) Enc.dflt)) (281474976710656 : Int)))), .sc (.int .u8 (IntKind.wrap .u8 (Int.fdiv (Int.ofNat (bitsN (Vl.f (List.getD m (0 + Int.toNat i) Enc.dflt)))) (281474976710656 : Int))))] (0 + j - (List.length B + 3 + 3 + 3 + 3 + 3 + 3)) k)) (selT 1 3 [.sc (.int .u8 (IntKind.wrap .u8 (Int.fdiv (Vl.k (List.getD m (0 + Int.toNat i) Enc.dflt)) (72057594037927936 : Int)))), .sc (.int .u8 (IntKind.wrap .u8 (Int.fdiv (Vl.i (List.getD m (0 + Int.toNat i) Enc.dflt)) (72057594037927936 : Int)))), .sc (.int .u8 (IntKind.wrap .u8 (Int.fdiv (Int.ofNat (bitsN (Vl.f (List.getD m (0 + Int.toNat i) Enc.dflt)))) (72057594037927936 : Int))))] (j - (List.length B + 3 + 3 + 3 + 3 + 3 + 3 + 3)) k))]))))))))))))))))))))) (N (.exit 0) (mkF 54 [(3, .slice (some ⟨1, 0, some 0⟩) B.length 3), (19, .slice (some ⟨0, 0, some 0⟩) m.length c), (20, .int .i64 (Int.ofNat m.length)), (21, .int .i64 i)]) (mkS [some (.row .look 3 0 m.length (encL m)), some (.row .mine 1 0 B.length (encL B))]))) := by kernel_rfl
end Go.Proofs.Ytjibiphgbhlhkaa.Ev
end
section
namespace Go.Proofs.Ytjibiphgbhlhkaa.Ev
open Go Go.RowKit
theorem Seen.cellsRow {β : Bs} {f f' : AFr} {l : List (Option AObj)} (k es o n c t : Nat) {cs : List Value} {ex : Bool} (hk : l[k]? = some (some (.cells cs ex es))) (hs : f.tmps.get t = some (.slice (some ⟨k, o, none⟩) n c)) (hscal : cs.all scalT = true) (hlen : o + c * es ≤ cs.length) (hnc : n ≤ c) (h0 : 0 < n)
  (e : Nat → Nat → Td) (he : ∀ i, i < n → ∀ j, j < es → ∃ x, cs[o + i * es + j]? = some x ∧ e i j = .sc x)
  (hn : f'.n = f.n) (hd : f'.defers = f.defers) (h : ∀ u v, f'.tmps.get u = some v → (u = t ∧ v = .slice (some ⟨l.length, 0, some 0⟩) n c) ∨ f.tmps.get u = some v) :
  Seen β f (mkS l) f' (mkS (l.set k none ++ [some (.row .mine es 0 n e)])) := by
 intro ρ a w hr
 have hkl := (List.getElem?_eq_some_iff.1 hk).1
 have hgk : (mkS l).h.get k = some (.cells cs ex es) := by rw [mkS_get, hk]; rfl
 obtain ⟨s, e1, f0, f1, f2, C, ty, fr, f3, f4, f5, f6, f7⟩ := hr.wr.obj _ _ hgk
 have hfn : ρ l.length = none := hr.fresh _ (Nat.le_refl _)
 obtain ⟨v', v1, v2⟩ := hr.fr.tmp _ _ hs
 cases v2 with
 | slice _ _ s' _ _ c' o' hsp hn' hc hxx hro ho =>
  rw [hsp] at e1; cases e1
  have ho' : o' = s.base + o := by
   rcases ho with ho | ho
   ·exact ho
   ·omega
  have hroom : o' + c' * es ≤ C.size := by
   cases hex : ex with
   | false =>
    rw [hex] at f1
    have h1 := hro f1
    rw [f2] at h1; omega
   | true =>
    rw [hex] at f1
    have h1 := hxx f1
    rw [h1, ho']; omega
  have hle : n * es ≤ c' * es := Nat.mul_le_mul_right _ (by omega)
  have m := Mv.turn (w' := w) (n := l.length) hr.wr hfn hgk rfl hsp f0 (.row .mine es 0 n e) rfl ⟨s.blk, o', false, es, C.size, false, nofz⟩ (fun _ h => h) (.inr ⟨rfl, rfl, fun _ _ => rfl⟩)
   ⟨rfl, (fun h => by cases h), fun _ => ⟨rfl, rfl, fun _ => ⟨C, ty, fr, f3, rfl, f5, by show o' + n * es ≤ C.size; omega⟩⟩, (fun h => by cases h), fun i _ hi j hj => by
    obtain ⟨x, x1, x2⟩ := he i hi j hj
    obtain ⟨y, y1, y2⟩ := f7 _ x x1
    rw [List.all_eq_true] at hscal
    obtain ⟨z1, z2⟩ := scalT_rel (hscal x (List.mem_of_getElem? x1)) y2
    refine ⟨y, ?_, z2, by rw [x2]; exact z1⟩
    rw [cell_row f3, ← y1, ho']; congr 1; show s.base + o + i * es + j = _; omega⟩ rfl rfl rfl
  have hg : (mkS (l.set k none ++ [some (.row .mine es 0 n e)])).h.get = upd (upd (mkS l).h.get k none) l.length (some (.row .mine es 0 n e)) := by
   funext q
   rw [mkS_get]
   by_cases hq : q = l.length
   ·subst hq; rw [upd_same, List.getElem?_append_right (by simp)]; simp
   ·rw [upd_ne _ _ hq]
    rcases Nat.lt_or_ge q l.length with h1 | h1
    ·rw [List.getElem?_append_left (by simpa using h1)]
     by_cases hqk : q = k
     ·subst hqk; rw [upd_same, List.getElem?_set_self hkl]; rfl
     ·rw [upd_ne _ _ hqk, List.getElem?_set_ne (Ne.symm hqk), mkS_get]
    ·rw [List.getElem?_eq_none (by simp; omega)]
     rw [upd_ne _ _ (by omega), mkS_get, List.getElem?_eq_none h1]
  have hnx : (mkS (l.set k none ++ [some (.row .mine es 0 n e)])).next = (mkS l).next + 1 := by simp [mkS]
  have hl1 : (mkS l).next = l.length := rfl
  let st1 : ASt := ⟨(mkS l).next + 1, (mkS (l.set k none ++ [some (.row .mine es 0 n e)])).h, 0⟩
  have hlo : LoS (mkS l) st1 := ⟨Nat.le_succ _, Nat.zero_le _, fun x _ h2 => absurd h2 (Nat.not_lt_zero _), fun x o' e' => by
   have e' : (mkS (l.set k none ++ [some (.row .mine es 0 n e)])).h.get x = some o' := e'
   rw [hg] at e'
   by_cases hx : x = l.length
   ·exact .inr (by subst hx; exact ⟨Nat.le_refl _, Nat.lt_succ_self _⟩)
   ·rw [upd_ne _ _ hx] at e'
    by_cases hxk : x = k
    ·subst hxk; rw [upd_same] at e'; cases e'
    ·rw [upd_ne _ _ hxk] at e'; exact .inl ⟨o', e'⟩⟩
  have hR := hr.step (f' := f') (a' := a) hlo ⟨by rw [hn]; exact hr.fr.size, fun u v hu => ?_, by rw [hd]; exact hr.fr.defs.mono m.ext⟩ (by show Mv _ _ _ (mkS _).h.get _ _ _ _; rw [hg]; exact m)
  ·exact ⟨_, ⟨hR.fr, hR.wr, fun x o' e' => by have := hR.wf x o' e'; rw [hnx]; exact this, fun x hx => hR.fresh x (by rw [hnx] at hx; exact hx), hR.own, hR.bel, hR.size, hR.ext, hR.fzb⟩⟩
  ·rcases h u v hu with ⟨rfl, rfl⟩ | h1
   ·refine ⟨_, v1, ?_⟩
    exact VR.sliceI l.length 0 ⟨s.blk, o', false, es, C.size, false, nofz⟩ n c c' o' (upd_same _ _ _) (by omega) (fun _ => h0) (fun _ => hroom) rfl (.inl (by simp))
   ·obtain ⟨v', h2, h3⟩ := hr.fr.tmp u v h1
    exact ⟨v', h2, h3.mono m.ext⟩
theorem ObjR.openMap {ρ : Rho} {s : Spot} {w : World} {clock : Nat} (kk : Kk) (vk : Vk) (h : ObjR ρ (.map [] clock) s w) : ObjR ρ (.omap kk vk []) s w := by
 obtain ⟨h0, E, h1, h2, _⟩ := h
 have hE : E = #[] := Array.eq_empty_of_size_eq_zero (by simpa using h2)
 subst hE
 exact ⟨h0, rfl, #[], clock, h1, rfl⟩
end Go.Proofs.Ytjibiphgbhlhkaa.Ev
end
section
set_option maxRecDepth 100000
namespace Go.Proofs.Ytjibiphgbhlhkaa.Ev
open Go Go.Proofs Go.RowKit
theorem kyV_len (v : Vl) : (kyV v).length = 24 := rfl
theorem kyL_len (at_ dn : Int) (m : List Vl) (k : Nat) : (kyL at_ dn m k).length = 3 + 24 * k := by
 induction k with
 | zero => rfl
 | succ k ih => simp only [kyL, List.length_append, ih, kyV_len]; omega
theorem PW.last4 {w : World} {F : Nat → Prop} {a b c t t' : Td} {l : List Value} (h : PW (TRo w F) [a, b, c, t] l) (ht : ∀ y, TRo w F t y → TRo w F t' y) : PW (TRo w F) [a, b, c, t'] l := by
 obtain ⟨y1, l1, rfl, h1, k1⟩ := h.uncons
 obtain ⟨y2, l2, rfl, h2, k2⟩ := k1.uncons
 obtain ⟨y3, l3, rfl, h3, k3⟩ := k2.uncons
 obtain ⟨y4, l4, rfl, h4, k4⟩ := k3.uncons
 have := k4.nil_inv
 subst this
 exact PW.cons h1 (PW.cons h2 (PW.cons h3 (PW.cons (ht _ h4) (PW.nil _))))
theorem ky_round {m : List Vl} {c : Nat} {at_ dn : Int} {β : Bs} (hβ : β.X.length = 1) (hm6 : m.length ≤ 1000) (k : Nat) (hk : k ≤ m.length) (K : Kt) (hK : K (.exit 0) (FKo m (kyL at_ dn m m.length) c m.length) (SKo m (kyL at_ dn m m.length))) :
  J Try.prog β (loopOf Try.prog 20 0) (FKo m (kyL at_ dn m k) c k) (SKo m (kyL at_ dn m k)) (Nn β (fun k : Nat => k ≤ m.length) (fun k => m.length - k) (fun k : Nat => FKo m (kyL at_ dn m k) c k) (fun k => SKo m (kyL at_ dn m k)) k K) := by
 refine roundJ_ok (E := 1) (lvs := fun _ => slKo) (un := unK) (fuel := 100) (n := 20) (ex := fun _ _ => False) follows toldT_ok hβ (lv := lvKo) ?_
 rw [vc_ke_r]
 have hl := kyL_len at_ dn m k
 by_cases hkn : k < m.length
 ·have c1 : decide ((k : Int) < Int.ofNat m.length) = true := by simpa using hkn
  have c2 : decide ((0 : Int) ≤ (k : Int)) = true := by simp
  have e0 : Int.toNat (k : Int) = k := Int.toNat_natCast k
  have c3 : Nat.blt k m.length = true := by simpa using hkn
  have c5 : Nat.ble 0 k = true := by simp
  have hw : IntKind.wrap .i64 ((k : Int) + 1) = ((k + 1 : Nat) : Int) := w64 (by omega) (by omega)
  have hb : ∀ n, n ≤ 24 → Nat.ble ((kyL at_ dn m k).length + n) 1000000 = true := fun n hn => Nat.ble_eq_true_of_le (by omega)
  simp only [c1, c2, e0, Nat.zero_add, c3, c5, Bool.true_and, br_t, need_t, hw, bleS, Nat.add_assoc]
  rw [hb _ (by omega), hb _ (by omega), hb _ (by omega), hb _ (by omega), hb _ (by omega), hb _ (by omega), hb _ (by omega), hb _ (by omega)]
  simp only [need_t]
  refine Nn.next (I := fun k : Nat => k ≤ m.length) (m := fun k => m.length - k) (F := fun k : Nat => FKo m (kyL at_ dn m k) c k) (S := fun k => SKo m (kyL at_ dn m k)) (p := k) (k + 1) hkn (by omega) ?_
  have hF : FKo m (kyL at_ dn m (k + 1)) c ((k + 1 : Nat) : Int) = mkF 54 [(3, .slice (some ⟨1, 0, some 0⟩) ((kyL at_ dn m k).length + 24) 3), (19, .slice (some ⟨0, 0, some 0⟩) m.length c), (20, .int .i64 (Int.ofNat m.length)), (21, .int .i64 ((k + 1 : Nat) : Int))] := by
   unfold FKo
   simp only [kyL, List.length_append, kyV_len]
  rw [hF]
  refine Seen.objs rfl fun q o2 h => ?_
  match q, h with
  | 0, h => cases h; exact ⟨_, rfl, rfl, fun _ _ _ h => h⟩
  | 1, h =>
   cases h
   refine ⟨_, rfl, rfl, fun ρ s w' h => ?_⟩
   have hr := (((((((((RowU.enc (kyL at_ dn m k)).app (RowU.sel3 _ _ _)).app (RowU.sel3 _ _ _)).app (RowU.sel3 _ _ _)).app (RowU.sel3 _ _ _)).app (RowU.sel3 _ _ _)).app (RowU.sel3 _ _ _)).app (RowU.sel3 _ _ _)).app (RowU.sel3 _ _ _)).obj (k := .mine) ρ s w' h
   have hL : kyL at_ dn m (k + 1) = kyL at_ dn m k ++ kyV (m.getD k Enc.dflt) := rfl
   rw [hL]
   unfold kyV
   simp only [List.append_assoc] at hr
   exact hr
 ·have c1 : decide ((k : Int) < Int.ofNat m.length) = false := by simpa using hkn
  have hkn' : k = m.length := by omega
  simp only [c1, br_f]
  subst hkn'
  exact Nn.exit (Seen.refl _ _ _) hK
theorem ky_loop {m : List Vl} {c : Nat} {at_ dn : Int} {β : Bs} (hβ : β.X.length = 1) (hm6 : m.length ≤ 1000) : LoopJ Try.prog β (exKy at_ dn m c) 0 (loopOf Try.prog 20 0) (FKo m (ky0 at_ dn) c (0 : Nat)) (SKo m (ky0 at_ dn)) :=
 loop_rule (fun k : Nat => k ≤ m.length) (fun k => FKo m (kyL at_ dn m k) c k) (fun k => SKo m (kyL at_ dn m k)) (fun k => m.length - k) (fun k hk K hK => ky_round hβ hm6 k hk K hK) 0 (Nat.zero_le _)
theorem ky_seen {m : List Vl} {c : Nat} {at_ dn : Int} {β : Bs} (hβ : β.X.length = 1) : Seen β (mkF 54 [(3, .slice (some ⟨1, 0, none⟩) 3 3), (19, .slice (some ⟨0, 0, some 0⟩) m.length c), (20, .int .i64 (Int.ofNat m.length)), (21, .int .i64 0)])
  (mkS [some (.row .look 3 0 m.length (encL m)), some (.cells [.int .u8 (IntKind.wrap .u8 at_), .int .u8 (IntKind.wrap .u8 dn), .int .u8 (IntKind.wrap .u8 (Int.fdiv dn 256))] true 1)]) (FKo m (ky0 at_ dn) c (0 : Nat)) (SKo m (ky0 at_ dn)) := by
 refine Seen.trans (Seen.cellsRow (f' := mkF 54 [(3, .slice (some ⟨2, 0, some 0⟩) 3 3), (19, .slice (some ⟨0, 0, some 0⟩) m.length c), (20, .int .i64 (Int.ofNat m.length)), (21, .int .i64 0)]) 1 1 0 3 3 3 rfl (by rfl) rfl (by simp) (by omega) (by omega) (encL (ky0 at_ dn)) (fun i hi j hj => ?_) rfl rfl (fun u v h => ?_)) (Seen.canon (E := 1) (slots := slKo) hβ (fun K => by kernel_rfl))
 ·have hj : j = 0 := by omega
  subst hj
  match i, hi with
  | 0, _ => exact ⟨_, rfl, rfl⟩
  | 1, _ => exact ⟨_, rfl, rfl⟩
  | 2, _ => exact ⟨_, rfl, rfl⟩
 ·rcases mkFT_get _ _ u v h with h1 | h1
  ·simp only [List.mem_cons, List.mem_nil_iff, or_false, Prod.mk.injEq] at h1
   rcases h1 with ⟨rfl, rfl⟩ | ⟨rfl, rfl⟩ | ⟨rfl, rfl⟩ | ⟨rfl, rfl⟩
   ·exact .inl ⟨rfl, rfl⟩
   ·exact .inr rfl
   ·exact .inr rfl
   ·exact .inr rfl
  ·cases h1
def okKy (ts : List Ta) : Bool := match ts with
 | [.agg [.sc (.int .i64 a), .sc (.int .u64 d), .sc (.bool b), t]] => okT Vl t && Nat.ble (listT Vl t).length 1000
 | _ => false
def keyS (a d : Int) (m : List Vl) : ByteArray := strU (kyL a d m m.length)
def ansKy (ts : List Ta) : Ans := match ts with
 | [.agg [.sc (.int .i64 a), .sc (.int .u64 d), .sc (.bool b), t]] => .ret (.cell (.sc (.string (keyS a d (listT Vl t)))))
 | _ => .pan .nilIface
theorem key_told : ToldW Try.prog 20 okKy ansKy := by
 intro ts hok w args' F hF ha
 unfold okKy at hok
 split at hok
 ·rename_i a d b t
  simp only [Bool.and_eq_true] at hok
  have hl := Nat.le_of_ble_eq_true hok.2
  obtain ⟨y, m, e, ⟨arr, rfl, hy⟩, hm'⟩ := ha.uncons
  have := hm'.nil_inv
  subst this
  have ha' : PW (TaR w F) [.agg [.sc (.int .i64 a), .sc (.int .u64 d), .sc (.bool b), tdL (listT Vl t) (nilT t)]] args'.toList := by rw [e]; exact PW.cons ⟨arr, rfl, hy.last4 fun _ h => okT_TRo hok.1 h⟩ (PW.nil _)
  refine toldW_at (ts := [.agg [.sc (.int .i64 a), .sc (.int .u64 d), .sc (.bool b), tdL (listT Vl t) (nilT t)]]) follows ⟨toldT, 100, 20, unK, fun _ => slKo, exKy a d (listT Vl t) (nilT t), toldT_ok, fun β hβ => ?_⟩ w args' F hF ha'
  generalize hm : listT Vl t = m at *
  generalize nilT t = c at *
  show lawE Try.prog toldT 100 20 β unK (cnOf 1 fun _ => slKo) (exKy a d m c) 20 [.agg ⟨[.int .i64 a, .int .u64 d, .bool b, .slice (some ⟨0, 0, some 0⟩) m.length c]⟩] (mkS [some (rowO .look m)]) (ansE (.ret (.cell (.sc (.string (keyS a d (listT Vl t)))))))
  rw [vc_ke, hm]
  refine ⟨LoopJ.seen (ky_seen hβ) (ky_loop hβ hl), need_of (by simp) (need_of (allB_mid _ _ _) ?_)⟩
  refine ⟨[], ⟨rfl, ?_, rfl⟩, List.nodup_nil⟩
  simp only [Nat.zero_add]
  exact congrArg Value.string (strOf_all _)
 ·cases hok
def toldK : Told := toldT.tree 20 okKy ansKy
theorem toldK_ok : ToldS Try.prog toldK := Told.tree_ok toldT_ok key_told
end Go.Proofs.Ytjibiphgbhlhkaa.Ev
end
section
set_option maxRecDepth 100000
namespace Go.Proofs.Ytjibiphgbhlhkaa.Ev
open Go Go.Proofs Go.RowKit
def toldD : Told := toldK.tree 28 (ok2 Wr Vl fun l _ _ _ => l.all (okA Wr)) (ans2 Wr Vl fun l _ m d => .ret (.cell (ownL (drL l m l.length) d)))
theorem toldD_ok : ToldS Try.prog toldD := Told.tree_ok toldK_ok drain_told
end Go.Proofs.Ytjibiphgbhlhkaa.Ev
end
section
set_option maxRecDepth 1000000
namespace Go.Proofs.Ytjibiphgbhlhkaa.Ev
open Go Go.Proofs
def slFi : List Nat := [2, 3, 23, 24, 25]
def lvFi : AX → List Nat := fun x => match x with
 | .normal => slFi
 | .exit _ => slFi
 | _ => [4, 5]
def stV (at_ dn : Int) (bd : Bool) (m : List Vl) (c : Nat) : List Value := [.int .i64 at_, .int .u64 dn, .bool bd, .slice (some ⟨0, 0, some 0⟩) m.length c]
def akV (x : Ask) : List Value := [.int .i64 x.ev.k, .int .i64 x.ev.s, .int .i64 x.ev.i, .bool x.ev.w, .int .i64 x.ev.e, .slice (some ⟨1, 0, some 0⟩) x.ev.a.length x.ev.ca, .slice (some ⟨2, 0, some 0⟩) x.ev.v.length x.ev.cv, .slice (some ⟨3, 0, some 0⟩) x.ev.m.length x.ev.cm, .slice (some ⟨4, 0, some 0⟩) x.vs.length x.cs, .int .i64 x.fr, .int .i64 x.to, .bool x.mu, .bool x.pl]
def viF (m : List Vl) (x : Ask) : List (Option AObj) := [some (rowO .look m), some (rowO .still x.ev.a), some (rowO .still x.ev.v), some (rowO .still x.ev.m), some (rowO .still x.vs)]
def FFi (x : Ask) (i : Int) : AFr := mkF 45 [(2, .pointer (some ⟨5, 0, none⟩)), (3, .pointer (some ⟨6, 0, none⟩)), (23, .slice (some ⟨1, 0, some 0⟩) x.ev.a.length x.ev.ca), (24, .int .i64 (Int.ofNat x.ev.a.length)), (25, .int .i64 i)]
def SFi (at_ dn : Int) (bd : Bool) (m : List Vl) (c : Nat) (x : Ask) : ASt := mkS (viF m x ++ [some (.cells (stV at_ dn bd m c) true 0), some (.cells (akV x) true 0)])
def sameV (a b : Vl) : Bool := (a.k == b.k) && (a.i == b.i) && sameN a.f b.f
def samK (m : List Vl) (x : Ask) (k : Nat) : Bool := (List.range k).all fun i => sameV (m.getD (x.ev.a.getD i Enc.dflt).toNat Enc.dflt) (x.vs.getD i Enc.dflt)
def FFr : AFr := mkF 45 [(4, .slice none 0 0), (5, .bool false)]
def exFi (at_ dn : Int) (bd : Bool) (m : List Vl) (c : Nat) (x : Ask) : Nat → Kt → Prop := fun b K => (samK m x x.ev.a.length = true → K (.exit b) (FFi x x.ev.a.length) (SFi at_ dn bd m c x)) ∧ (samK m x x.ev.a.length = false → K .ret FFr (mkS (viF m x)))
def shpFi (at_ dn : Int) (bd : Bool) (m : List Vl) (c : Nat) (x : Ask) (i' : Int) : AFr × ASt := (FFi x i', SFi at_ dn bd m c x)
def shpFr (m : List Vl) (x : Ask) : AFr × ASt := (FFr, mkS (viF m x))
theorem vc_fi (at_ dn : Int) (bd : Bool) (m : List Vl) (c : Nat) (x : Ask) (β : Bs) (K : AE → List (Option AObj) → Prop) : lawE Try.prog toldD 100 20 β (fun _ => 0) (cnOf 5 fun _ => slFi) (exFi at_ dn bd m c x) 25 [.agg ⟨stV at_ dn bd m c⟩, .agg ⟨akV x⟩] (mkS (viF m x)) (outK K) =
 (br (Evt.w (Ask.ev x)) (need (true && Nat.ble (0 + List.length (Evt.a (Ask.ev x))) (List.length (Evt.a (Ask.ev x)))) (need (true && Nat.ble (0 + List.length (Ask.vs x)) (List.length (Ask.vs x))) (need (true && Nat.ble (0 + List.length m) m.length) (need (ok2 Wr Vl (fun l x x_1 x_2 => List.all l (okA Wr)) [Ta.cell (.fr 4 1 0 (selT 4 1 [.sc (.int .i64 (0 : Int)), .sc (.int .i64 (0 : Int)), .fr 1 (List.length (Evt.a (Ask.ev x))) (Evt.ca (Ask.ev x)) fun i => encL (Evt.a (Ask.ev x)) (0 + i), .fr 3 (List.length (Ask.vs x)) (Ask.cs x) fun i => encL (Ask.vs x) (0 + i)])), Ta.cell (.fr 3 m.length c fun i => encL m (0 + i))]) (K (.returned (Value.tuple (Array.mk [.slice (some ⟨9, 0, some 0⟩) (List.length (drL [Wr.mk (0 : Int) (0 : Int) (listT Int (selT 4 1 [.sc (.int .i64 (0 : Int)), .sc (.int .i64 (0 : Int)), .fr 1 (List.length (Evt.a (Ask.ev x))) (Evt.ca (Ask.ev x)) fun i => encL (Evt.a (Ask.ev x)) (0 + i), .fr 3 (List.length (Ask.vs x)) (Ask.cs x) fun i => encL (Ask.vs x) (0 + i)] (nat_lit 0) 2)) (Evt.ca (Ask.ev x)) (listT Vl (selT 4 1 [.sc (.int .i64 (0 : Int)), .sc (.int .i64 (0 : Int)), .fr 1 (List.length (Evt.a (Ask.ev x))) (Evt.ca (Ask.ev x)) fun i => encL (Evt.a (Ask.ev x)) (0 + i), .fr 3 (List.length (Ask.vs x)) (Ask.cs x) fun i => encL (Ask.vs x) (0 + i)] (nat_lit 0) 3)) (Ask.cs x)] (listT Vl (.fr 3 m.length c fun i => encL m (0 + i))) (List.length [Wr.mk (0 : Int) (0 : Int) (listT Int (selT 4 1 [.sc (.int .i64 (0 : Int)), .sc (.int .i64 (0 : Int)), .fr 1 (List.length (Evt.a (Ask.ev x))) (Evt.ca (Ask.ev x)) fun i => encL (Evt.a (Ask.ev x)) (0 + i), .fr 3 (List.length (Ask.vs x)) (Ask.cs x) fun i => encL (Ask.vs x) (0 + i)] (nat_lit 0) 2)) (Evt.ca (Ask.ev x)) (listT Vl (selT 4 1 [.sc (.int .i64 (0 : Int)), .sc (.int .i64 (0 : Int)), .fr 1 (List.length (Evt.a (Ask.ev x))) (Evt.ca (Ask.ev x)) fun i => encL (Evt.a (Ask.ev x)) (0 + i), .fr 3 (List.length (Ask.vs x)) (Ask.cs x) fun i => encL (Ask.vs x) (0 + i)] (nat_lit 0) 3)) (Ask.cs x)]))) c, .bool true]))) [some (.row .look 3 0 m.length (encL m)), some (.row .still 1 0 (List.length (Evt.a (Ask.ev x))) (encL (Evt.a (Ask.ev x)))), some (.row .still 3 0 (List.length (Evt.v (Ask.ev x))) (encL (Evt.v (Ask.ev x)))), some (.row .still 3 0 (List.length (Evt.m (Ask.ev x))) (encL (Evt.m (Ask.ev x)))), some (.row .still 3 0 (List.length (Ask.vs x)) (encL (Ask.vs x))), some (.cells [.int .i64 at_, .int .u64 dn, .bool bd, .slice (some ⟨0, 0, some 0⟩) m.length c] true 0), some (.cells [.int .i64 (Evt.k (Ask.ev x)), .int .i64 (Evt.s (Ask.ev x)), .int .i64 (Evt.i (Ask.ev x)), .bool (Evt.w (Ask.ev x)), .int .i64 (Evt.e (Ask.ev x)), .slice (some ⟨1, 0, some 0⟩) (List.length (Evt.a (Ask.ev x))) (Evt.ca (Ask.ev x)), .slice (some ⟨2, 0, some 0⟩) (List.length (Evt.v (Ask.ev x))) (Evt.cv (Ask.ev x)), .slice (some ⟨3, 0, some 0⟩) (List.length (Evt.m (Ask.ev x))) (Evt.cm (Ask.ev x)), .slice (some ⟨4, 0, some 0⟩) (List.length (Ask.vs x)) (Ask.cs x), .int .i64 (Ask.fr x), .int .i64 (Ask.to x), .bool (Ask.mu x), .bool (Ask.pl x)] true 0), some (.cells [.int .i64 (0 : Int), .int .i64 (0 : Int), .slice (some ⟨1, 0, some 0⟩) (List.length (Evt.a (Ask.ev x))) (Evt.ca (Ask.ev x)), .slice (some ⟨4, 0, some 0⟩) (List.length (Ask.vs x)) (Ask.cs x)] true 4), none, some (.row .mine 3 0 (List.length (drL [Wr.mk (0 : Int) (0 : Int) (listT Int (selT 4 1 [.sc (.int .i64 (0 : Int)), .sc (.int .i64 (0 : Int)), .fr 1 (List.length (Evt.a (Ask.ev x))) (Evt.ca (Ask.ev x)) fun i => encL (Evt.a (Ask.ev x)) (0 + i), .fr 3 (List.length (Ask.vs x)) (Ask.cs x) fun i => encL (Ask.vs x) (0 + i)] (nat_lit 0) 2)) (Evt.ca (Ask.ev x)) (listT Vl (selT 4 1 [.sc (.int .i64 (0 : Int)), .sc (.int .i64 (0 : Int)), .fr 1 (List.length (Evt.a (Ask.ev x))) (Evt.ca (Ask.ev x)) fun i => encL (Evt.a (Ask.ev x)) (0 + i), .fr 3 (List.length (Ask.vs x)) (Ask.cs x) fun i => encL (Ask.vs x) (0 + i)] (nat_lit 0) 3)) (Ask.cs x)] (listT Vl (.fr 3 m.length c fun i => encL m (0 + i))) (List.length [Wr.mk (0 : Int) (0 : Int) (listT Int (selT 4 1 [.sc (.int .i64
 (0 : Int)), .sc (.int .i64 (0 : Int)), .fr 1 (List.length (Evt.a (Ask.ev x))) (Evt.ca (Ask.ev x)) fun i => encL (Evt.a (Ask.ev x)) (0 + i), .fr 3 (List.length (Ask.vs x)) (Ask.cs x) fun i => encL (Ask.vs x) (0 + i)] (nat_lit 0) 2)) (Evt.ca (Ask.ev x)) (listT Vl (selT 4 1 [.sc (.int .i64 (0 : Int)), .sc (.int .i64 (0 : Int)), .fr 1 (List.length (Evt.a (Ask.ev x))) (Evt.ca (Ask.ev x)) fun i => encL (Evt.a (Ask.ev x)) (0 + i), .fr 3 (List.length (Ask.vs x)) (Ask.cs x) fun i => encL (Ask.vs x) (0 + i)] (nat_lit 0) 3)) (Ask.cs x)]))) (encL (drL [Wr.mk (0 : Int) (0 : Int) (listT Int (selT 4 1 [.sc (.int .i64 (0 : Int)), .sc (.int .i64 (0 : Int)), .fr 1 (List.length (Evt.a (Ask.ev x))) (Evt.ca (Ask.ev x)) fun i => encL (Evt.a (Ask.ev x)) (0 + i), .fr 3 (List.length (Ask.vs x)) (Ask.cs x) fun i => encL (Ask.vs x) (0 + i)] (nat_lit 0) 2)) (Evt.ca (Ask.ev x)) (listT Vl (selT 4 1 [.sc (.int .i64 (0 : Int)), .sc (.int .i64 (0 : Int)), .fr 1 (List.length (Evt.a (Ask.ev x))) (Evt.ca (Ask.ev x)) fun i => encL (Evt.a (Ask.ev x)) (0 + i), .fr 3 (List.length (Ask.vs x)) (Ask.cs x) fun i => encL (Ask.vs x) (0 + i)] (nat_lit 0) 3)) (Ask.cs x)] (listT Vl (.fr 3 m.length c fun i => encL m (0 + i))) (List.length [Wr.mk (0 : Int) (0 : Int) (listT Int (selT 4 1 [.sc (.int .i64 (0 : Int)), .sc (.int .i64 (0 : Int)), .fr 1 (List.length (Evt.a (Ask.ev x))) (Evt.ca (Ask.ev x)) fun i => encL (Evt.a (Ask.ev x)) (0 + i), .fr 3 (List.length (Ask.vs x)) (Ask.cs x) fun i => encL (Ask.vs x) (0 + i)] (nat_lit 0) 2)) (Evt.ca (Ask.ev x)) (listT Vl (selT 4 1 [.sc (.int .i64 (0 : Int)), .sc (.int .i64 (0 : Int)), .fr 1 (List.length (Evt.a (Ask.ev x))) (Evt.ca (Ask.ev x)) fun i => encL (Evt.a (Ask.ev x)) (0 + i), .fr 3 (List.length (Ask.vs x)) (Ask.cs x) fun i => encL (Ask.vs x) (0 + i)] (nat_lit 0) 3)) (Ask.cs x)]))))]))))) (LoopJ Try.prog β (exFi at_ dn bd m c x) 0 (loopOf Try.prog 25 0) (FFi x (0 : Int)) (SFi at_ dn bd m c x) ∧ (samK m x (List.length (Evt.a (Ask.ev x))) = true → K (.returned (Value.tuple (Array.mk [.slice (some ⟨0, 0, some 0⟩) m.length c, .bool true]))) [some (.row .look 3 0 m.length (encL m)), some (.row .still 1 0 (List.length (Evt.a (Ask.ev x))) (encL (Evt.a (Ask.ev x)))), some (.row .still 3 0 (List.length (Evt.v (Ask.ev x))) (encL (Evt.v (Ask.ev x)))), some (.row .still 3 0 (List.length (Evt.m (Ask.ev x))) (encL (Evt.m (Ask.ev x)))), some (.row .still 3 0 (List.length (Ask.vs x)) (encL (Ask.vs x))), some (.cells [.int .i64 at_, .int .u64 dn, .bool bd, .slice (some ⟨0, 0, some 0⟩) m.length c] true 0), some (.cells [.int .i64 (Evt.k (Ask.ev x)), .int .i64 (Evt.s (Ask.ev x)), .int .i64 (Evt.i (Ask.ev x)), .bool (Evt.w (Ask.ev x)), .int .i64 (Evt.e (Ask.ev x)), .slice (some ⟨1, 0, some 0⟩) (List.length (Evt.a (Ask.ev x))) (Evt.ca (Ask.ev x)), .slice (some ⟨2, 0, some 0⟩) (List.length (Evt.v (Ask.ev x))) (Evt.cv (Ask.ev x)), .slice (some ⟨3, 0, some 0⟩) (List.length (Evt.m (Ask.ev x))) (Evt.cm (Ask.ev x)), .slice (some ⟨4, 0, some 0⟩) (List.length (Ask.vs x)) (Ask.cs x), .int .i64 (Ask.fr x), .int .i64 (Ask.to x), .bool (Ask.mu x), .bool (Ask.pl x)] true 0)]) ∧ (samK m x (List.length (Evt.a (Ask.ev x))) = false → K (.returned (Value.tuple (Array.mk [.slice none 0 0, .bool false]))) [some (.row .look 3 0 m.length (encL m)), some (.row .still 1 0 (List.length (Evt.a (Ask.ev x))) (encL (Evt.a (Ask.ev x)))), some (.row .still 3 0 (List.length (Evt.v (Ask.ev x))) (encL (Evt.v (Ask.ev x)))), some (.row .still 3 0 (List.length (Evt.m (Ask.ev x))) (encL (Evt.m (Ask.ev x)))), some (.row .still 3 0 (List.length (Ask.vs x)) (encL (Ask.vs x)))]))) := by kernel_rfl
theorem vc_fi_r (at_ dn : Int) (bd : Bool) (m : List Vl) (c : Nat) (x : Ask) (i : Int) (β : Bs) (N : Kt) (ex : Nat → Kt → Prop) : roundJ Try.prog toldD 100 20 β (fun _ => 0) (cnOf 5 fun _ => slFi) ex 25 0 5 lvFi (FFi x i) (SFi at_ dn bd m c x) N =
 (br (decide (i < Int.ofNat (List.length (Evt.a (Ask.ev x))))) (need (decide ((0 : Int) ≤ i)) (need (Nat.blt (Int.toNat i) (List.length (Evt.a (Ask.ev x)))) (need (Nat.ble 0 (0 + Int.toNat i) && Nat.blt (0 + Int.toNat i) (List.length (Evt.a (Ask.ev x)))) (need (decide ((0 : Int) ≤ List.getD (Evt.a (Ask.ev x)) (0 + Int.toNat i) (0 : Int))) (need (Nat.blt (Int.toNat (List.getD (Evt.a (Ask.ev x)) (0 + Int.toNat i) (0 : Int))) m.length) (need (Nat.ble 0 (0 + Int.toNat (List.getD (Evt.a (Ask.ev x)) (0 + Int.toNat i) (0 : Int))) && Nat.blt (0 + Int.toNat (List.getD (Evt.a (Ask.ev x)) (0 + Int.toNat i) (0 : Int))) m.length) (need (decide ((0 : Int) ≤ i)) (need (Nat.blt (Int.toNat i) (List.length (Ask.vs x))) (need (Nat.ble 0 (0 + Int.toNat i) && Nat.blt (0 + Int.toNat i) (List.length (Ask.vs x))) (br (Vl.k (List.getD m (0 + Int.toNat (List.getD (Evt.a (Ask.ev x)) (0 + Int.toNat i) (0 : Int))) Enc.dflt) == Vl.k (List.getD (Ask.vs x) (0 + Int.toNat i) Enc.dflt)) (br (Vl.i (List.getD m (0 + Int.toNat (List.getD (Evt.a (Ask.ev x)) (0 + Int.toNat i) (0 : Int))) Enc.dflt) == Vl.i (List.getD (Ask.vs x) (0 + Int.toNat i) Enc.dflt)) (br (!sameN (Vl.f (List.getD m (0 + Int.toNat (List.getD (Evt.a (Ask.ev x)) (0 + Int.toNat i) (0 : Int))) Enc.dflt)) (Vl.f (List.getD (Ask.vs x) (0 + Int.toNat i) Enc.dflt))) (onP N .ret (shpFr m x)) (onP N .normal (shpFi at_ dn bd m c x (IntKind.wrap .i64 (i + (1 : Int)))))) (onP N .ret (shpFr m x))) (onP N .ret (shpFr m x)))))))))))) (onP N (.exit 0) (shpFi at_ dn bd m c x i))) := by kernel_rfl
end Go.Proofs.Ytjibiphgbhlhkaa.Ev
end
