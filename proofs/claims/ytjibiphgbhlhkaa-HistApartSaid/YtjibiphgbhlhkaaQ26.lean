/-
  Both steps of the search: told to the evaluator.
-/
import Derived.Test.YtjibiphgbhlhkaaQ24
import Derived.Test.YtjibiphgbhlhkaaQ25
import Derived.Test.YtjibiphgbhlhkaaQ23
set_option linter.unusedVariables false
set_option linter.unusedSimpArgs false
section
set_option maxRecDepth 100000
namespace Go.Proofs.Ytjibiphgbhlhkaa.Ev
open Go Go.Proofs Go.RowKit
theorem plL_no {go : GoF} {A : List Ask} {a d : Int} {m : List Vl} : ∀ (r i : Nat) (es : Es), plL go A a d false m r i es = (false, es)
 | 0, _, _ => rfl
 | r + 1, i, es => by
  have : elig A a d false i = false := by simp [elig]
  simp only [plL, this, cond_false]
  exact plL_no r (i + 1) es
theorem placesN_law {l : List Evt} {cl : Nat} {A : List Ask} {ca : Nat} {es : Es} {f : Nat} {β : Bs} (hβ : β.X.length = 4) (hG : ToldS Try.prog (toldG f)) (ho : OkS l A (f + 1) 0 0 false []) (bb : Bool) :
  lawE Try.prog (toldG f) 100 20 β (fun _ => 0) (cnOf 4 fun _ => slPl) (exPlN l cl A ca es) 22 [.pointer (some ⟨0, 0, none⟩), .agg ⟨svN⟩] (mkS (viN l cl A ca es))
   (outR (effK ⟨bb, viN l cl A ca es, .returned (.bool (plF l A f 0 0 false [] es).1), [.to (xO l.length cl A.length ca), .same, .same, .to (.omap .s .b (plF l A f 0 0 false [] es).2)], []⟩)) := by
 have hout : ∀ s : Sp, outR (effK s) = outK fun r l => ∃ l2, objsR l l2 ∧ effK s r (mkS l2) := fun s => rfl
 rw [hout, vc_pln]
 have hA := ho.hA
 have hF : plF l A f 0 0 false [] es = (false, es) := plL_no _ _ _
 rw [hF]
 refine ⟨?_, effGN rfl rfl⟩
 refine loop_rule (fun k => k ≤ A.length) (fun p : Nat => FPlN A ca (p : Nat)) (fun _ => SPlN l cl A ca es) (fun p => A.length - p) (fun k hk K hK => ?_) 0 (Nat.zero_le _)
 show J _ β _ _ _ (Nn β (fun k : Nat => k ≤ A.length) (fun k => A.length - k) (fun k : Nat => FPlN A ca k) (fun _ => SPlN l cl A ca es) k K)
 refine roundJ_ok (E := 4) (lvs := fun _ => slPl) (un := fun _ => 0) (fuel := 100) (n := 20) (ex := fun _ _ => False) follows hG hβ (lv := lvPl) ?_
 rw [vc_pln_r]
 by_cases hkn : k < A.length
 ·have c1 : decide ((k : Int) < Int.ofNat A.length) = true := by simpa using hkn
  have c2 : decide ((0 : Int) ≤ (k : Int)) = true := by simp
  have e0 : Int.toNat (k : Int) = k := Int.toNat_natCast k
  have c3 : Nat.blt k A.length = true := by simpa using hkn
  have c5 : Nat.ble 0 k = true := by simp
  have hw : IntKind.wrap .i64 ((k : Int) + 1) = ((k + 1 : Nat) : Int) := w64 (by omega) (by omega)
  simp only [c1, c2, e0, Nat.zero_add, c3, c5, Bool.true_and, br_t, need_t, hw]
  have hnext : onP (Nn β (fun k : Nat => k ≤ A.length) (fun k => A.length - k) (fun k : Nat => FPlN A ca k) (fun _ => SPlN l cl A ca es) k K) .normal (shpPlN l cl A ca es ((k + 1 : Nat) : Int)) :=
   Nn.next (I := fun k : Nat => k ≤ A.length) (m := fun k => A.length - k) (F := fun k : Nat => FPlN A ca k) (S := fun _ => SPlN l cl A ca es) (p := k) (k + 1) hkn (by omega) (Seen.refl _ _ _)
  exact br_of (fun _ => hnext) (fun _ => br_of (fun _ => hnext) (fun _ => br_of (fun _ => hnext) (fun _ => hnext)))
 ·have c1 : decide ((k : Int) < Int.ofNat A.length) = false := by simpa using hkn
  have hkn' : k = A.length := by omega
  simp only [c1, br_f]
  subst hkn'
  exact Nn.exit (Seen.refl _ _ _) hK
theorem viewS {l : List Evt} {cl : Nat} {A : List Ask} {ca : Nat} {es : Es} {m : List Vl} {nl na : Nat} {o1 o2 o4 : Option AObj} (hl : l.length = nl) (ha : A.length = na) (h1 : ∃ q, o1 = some q ∧ ∀ ρ s w, ObjR ρ q s w → ObjR ρ (rowO .look l) s w) (h2 : ∃ q, o2 = some q ∧ ∀ ρ s w, ObjR ρ q s w → ObjR ρ (rowO .look A) s w) (h4 : ∃ q, o4 = some q ∧ ∀ ρ s w, ObjR ρ q s w → ObjR ρ (rowO .look m) s w) :
  viewR [some (.cells [.slice (some ⟨1, 0, some 0⟩) nl cl, .slice (some ⟨2, 0, some 0⟩) na ca, .map (some 3)] true 0), o1, o2, some (.omap .s .b es), o4] (viS l cl A ca es m) := by
 subst hl ha
 refine ⟨rfl, fun i o h => ?_⟩
 match i, h with
 | 0, h => cases h; exact ⟨_, rfl, fun h => h, fun _ _ _ h => h⟩
 | 1, h => cases h; obtain ⟨q, rfl, hq⟩ := h1; exact ⟨q, rfl, (fun h => by cases h), hq⟩
 | 2, h => cases h; obtain ⟨q, rfl, hq⟩ := h2; exact ⟨q, rfl, (fun h => by cases h), hq⟩
 | 3, h => cases h; exact ⟨_, rfl, fun h => h, fun _ _ _ h => h⟩
 | 4, h => cases h; obtain ⟨q, rfl, hq⟩ := h4; exact ⟨q, rfl, (fun h => by cases h), hq⟩
 | _ + 5, h => simp [viS] at h
theorem viewN {l : List Evt} {cl : Nat} {A : List Ask} {ca : Nat} {es : Es} {nl na : Nat} {o1 o2 : Option AObj} (hl : l.length = nl) (ha : A.length = na) (h1 : ∃ q, o1 = some q ∧ ∀ ρ s w, ObjR ρ q s w → ObjR ρ (rowO .look l) s w) (h2 : ∃ q, o2 = some q ∧ ∀ ρ s w, ObjR ρ q s w → ObjR ρ (rowO .look A) s w) :
  viewR [some (.cells [.slice (some ⟨1, 0, some 0⟩) nl cl, .slice (some ⟨2, 0, some 0⟩) na ca, .map (some 3)] true 0), o1, o2, some (.omap .s .b es)] (viN l cl A ca es) := by
 subst hl ha
 refine ⟨rfl, fun i o h => ?_⟩
 match i, h with
 | 0, h => cases h; exact ⟨_, rfl, fun h => h, fun _ _ _ h => h⟩
 | 1, h => cases h; obtain ⟨q, rfl, hq⟩ := h1; exact ⟨q, rfl, (fun h => by cases h), hq⟩
 | 2, h => cases h; obtain ⟨q, rfl, hq⟩ := h2; exact ⟨q, rfl, (fun h => by cases h), hq⟩
 | 3, h => cases h; exact ⟨_, rfl, fun h => h, fun _ _ _ h => h⟩
 | _ + 4, h => simp [viN] at h
def StepS (g : FuncId) (F : List Evt → List Ask → GoF) (f : Nat) : Prop := ∀ (l : List Evt) (cl : Nat) (A : List Ask) (ca : Nat) (es : Es) (a d : Int) (b : Bool) (m : List Vl) (c : Nat) (bb : Bool), cl ≤ 1 → ca ≤ 1 → c ≤ 1 → OkS l A f a d b m →
 ∃ (C : Ev.Told) (fuel n : Nat) (un : Nat → Nat) (lvs : Nat → List Nat) (ex : Nat → Kt → Prop), ToldS Try.prog C ∧ ∀ β : Bs, β.X.length = 5 → lawE Try.prog C fuel n β un (cnOf 5 lvs) ex g [.pointer (some ⟨0, 0, none⟩), .agg ⟨svV a d b m c⟩] (mkS (viS l cl A ca es m))
  (outR (effK ⟨bb, viS l cl A ca es m, .returned (.bool (F l A a d b m es).1), [.to (xO l.length cl A.length ca), .same, .same, .to (.omap .s .b (F l A a d b m es).2), .same], []⟩))
def StepN (g : FuncId) (F : List Evt → List Ask → GoF) (f : Nat) : Prop := ∀ (l : List Evt) (cl : Nat) (A : List Ask) (ca : Nat) (es : Es) (bb : Bool), cl ≤ 1 → ca ≤ 1 → OkS l A f 0 0 false [] → (l.length = 0 ∨ (l.getD 0 Enc.dflt).k = 3) →
 ∃ (C : Ev.Told) (fuel n : Nat) (un : Nat → Nat) (lvs : Nat → List Nat) (ex : Nat → Kt → Prop), ToldS Try.prog C ∧ ∀ β : Bs, β.X.length = 4 → lawE Try.prog C fuel n β un (cnOf 4 lvs) ex g [.pointer (some ⟨0, 0, none⟩), .agg ⟨svN⟩] (mkS (viN l cl A ca es))
  (outR (effK ⟨bb, viN l cl A ca es, .returned (.bool (F l A 0 0 false [] es).1), [.to (xO l.length cl A.length ca), .same, .same, .to (.omap .s .b (F l A 0 0 false [] es).2)], []⟩))
theorem step_told {g : FuncId} {F : List Evt → List Ask → GoF} {f : Nat} (hS : StepS g F f) (hN : StepN g F f) : EffOk Try.prog g (pickS (spG F f)) := by
 intro args objs s hs hb
 unfold pickS spG at hs
 split at hs
 ·rename_i a d b n c nl cl na ca o1 o2 es o4
  simp only [Option.map_some, Option.some.injEq, SpT.pick] at hs
  subst hs
  have hb' := hb
  simp only [Bool.and_eq_true] at hb'
  obtain ⟨⟨⟨b1, b2⟩, b4⟩, b5⟩ := hb'
  obtain ⟨l1, m1, c1, v1⟩ := rowB_ok b1
  obtain ⟨l2, m2, c2, v2⟩ := rowB_ok b2
  obtain ⟨l4, m4, c4, v4⟩ := rowB_ok b4
  refine ⟨viewS l1 l2 v1 v2 v4, ?_⟩
  obtain ⟨C, fuel, n', un, lvs, ex, hC, hlaw⟩ := hS (rowL Evt nl o1) cl (rowL Ask na o2) ca es a d b (rowL Vl n o4) c (rowB Evt nl cl o1 && rowB Ask na ca o2 && rowB Vl n c o4 && okS (rowL Evt nl o1) (rowL Ask na o2) f a d b (rowL Vl n o4)) c1 c2 c4 (okS_iff.1 b5)
  refine ⟨C, fuel, n', un, lvs, ex, hC, fun β hβ => ?_⟩
  have hl := hlaw β hβ
  have ea : svV a d b (rowL Vl n o4) c = [.int .i64 a, .int .u64 d, .bool b, .slice (some ⟨4, 0, some 0⟩) n c] := by unfold svV; rw [l4]
  rw [ea, l1, l2] at hl
  exact hl
 ·rename_i nl cl na ca o1 o2 es
  simp only [Option.map_some, Option.some.injEq, SpT.pick] at hs
  subst hs
  have hb' := hb
  simp only [Bool.and_eq_true] at hb'
  obtain ⟨⟨⟨b1, b2⟩, b5⟩, b6⟩ := hb'
  obtain ⟨l1, m1, c1, v1⟩ := rowB_ok b1
  obtain ⟨l2, m2, c2, v2⟩ := rowB_ok b2
  refine ⟨viewN l1 l2 v1 v2, ?_⟩
  have h6 : (rowL Evt nl o1).length = 0 ∨ ((rowL Evt nl o1).getD 0 Enc.dflt).k = 3 := by
   rw [Bool.or_eq_true] at b6
   rcases b6 with h | h
   ·left; rw [l1]; exact Nat.eq_of_beq_eq_true h
   ·right; simpa using h
  obtain ⟨C, fuel, n', un, lvs, ex, hC, hlaw⟩ := hN (rowL Evt nl o1) cl (rowL Ask na o2) ca es (rowB Evt nl cl o1 && rowB Ask na ca o2 && okS (rowL Evt nl o1) (rowL Ask na o2) f 0 0 false [] && (Nat.beq nl 0 || ((rowL Evt nl o1).getD 0 Enc.dflt).k == 3)) c1 c2 (okS_iff.1 b5) h6
  refine ⟨C, fuel, n', un, lvs, ex, hC, fun β hβ => ?_⟩
  have hl := hlaw β hβ
  rw [l1, l2] at hl
  exact hl
 ·cases hs
theorem passes_told {f : Nat} (hG : ToldS Try.prog (toldG f)) : EffOk Try.prog 21 (pickS (spG (fun l A => psF l A f) (f + 1))) :=
 step_told (fun l cl A ca es a d b m c bb hcl hca hc ho => ⟨toldG f, 100, 20, fun _ => 0, fun _ => slPs, _, hG, fun β hβ => passes_law hβ hG hcl hca hc ho bb⟩)
  (fun l cl A ca es bb hcl hca ho h0 => ⟨toldG f, 100, 20, fun _ => 0, fun _ => slPs, _, hG, fun β hβ => passesN_law hβ hG hcl hca ho h0 bb⟩)
theorem places_told {f : Nat} (hG : ToldS Try.prog (toldG f)) : EffOk Try.prog 22 (pickS (spG (fun l A => plF l A f) (f + 1))) :=
 step_told (fun l cl A ca es a d b m c bb hcl hca hc ho => ⟨toldG f, 100, 20, fun _ => 0, fun _ => slPl, _, hG, fun β hβ => places_law hβ hG hcl hca hc ho bb⟩)
  (fun l cl A ca es bb hcl hca ho h0 => ⟨toldG f, 100, 20, fun _ => 0, fun _ => slPl, _, hG, fun β hβ => placesN_law hβ hG ho bb⟩)
def toldP (f : Nat) : Ev.Told := ((toldG f).effT 21 (spG (fun l A => psF l A f) (f + 1))).effT 22 (spG (fun l A => plF l A f) (f + 1))
theorem toldP_ok {f : Nat} (hG : ToldS Try.prog (toldG f)) : ToldS Try.prog (toldP f) := Told.effT_ok follows (Told.effT_ok follows hG (passes_told hG)) (places_told hG)
end Go.Proofs.Ytjibiphgbhlhkaa.Ev
end
section
set_option maxRecDepth 1000000
namespace Go.Proofs.Ytjibiphgbhlhkaa.Ev
open Go Go.Proofs
def slG : List Nat := [0, 1]
theorem vc_go (l : List Evt) (cl : Nat) (A : List Ask) (ca : Nat) (es : Es) (a d : Int) (b : Bool) (m : List Vl) (c : Nat) (f : Nat) (β : Bs) (K : AE → List (Option AObj) → Prop) : lawE Try.prog (toldP f) 100 20 β (fun _ => 0) (cnOf 5 fun _ => slG) (fun _ _ => False) 16 [.pointer (some ⟨0, 0, none⟩), .agg ⟨svV a d b m c⟩] (mkS (viS l cl A ca es m)) (outK K) =
 (need (true && Nat.ble (0 + List.length m) m.length) (need (okKy [Ta.agg [.sc (.int .i64 a), .sc (.int .u64 d), .sc (.bool b), .fr 3 m.length c fun i => encL m (0 + i)]]) (br (boolV (getK (.string (keyS a d (listT Vl (.fr 3 m.length c fun i => encL m (0 + i))))) (.bool false) es)) (K (.returned (.bool false)) [some (.cells [.slice (some ⟨1, 0, some 0⟩) l.length cl, .slice (some ⟨2, 0, some 0⟩) A.length ca, .map (some 3)] true 0), some (.row .look 8 0 l.length (encL l)), some (.row .look 13 0 A.length (encL A)), some (AObj.omap Kk.s Vk.b es), some (.row .look 3 0 m.length (encL m)), some (.cells [.int .i64 a, .int .u64 d, .bool b, .slice (some ⟨4, 0, some 0⟩) m.length c] true 0), none]) (need (rowB Evt l.length cl (some (.row .look 8 0 l.length (encL l))) && rowB Ev.Ask A.length ca (some (.row .look 13 0 A.length (encL A))) && rowB Vl m.length c (some (.row .look 3 0 m.length (encL m))) && okS (rowL Evt l.length (some (.row .look 8 0 l.length (encL l)))) (rowL Ev.Ask A.length (some (.row .look 13 0 A.length (encL A)))) (f + 1) a d b (rowL Vl m.length (some (.row .look 3 0 m.length (encL m))))) (br (Prod.fst (psF (rowL Evt l.length (some (.row .look 8 0 l.length (encL l)))) (rowL Ev.Ask A.length (some (.row .look 13 0 A.length (encL A)))) f a d b (rowL Vl m.length (some (.row .look 3 0 m.length (encL m)))) (putK (.string (keyS a d (listT Vl (.fr 3 m.length c fun i => encL m (0 + i))))) (.bool true) es))) (K (.returned (.bool true)) [some (.cells [.slice (some ⟨1, 0, some 0⟩) l.length cl, .slice (some ⟨2, 0, some 0⟩) A.length ca, .map (some 3)] true 0), some (.row .look 8 0 l.length (encL l)), some (.row .look 13 0 A.length (encL A)), some (AObj.omap Kk.s Vk.b (Prod.snd (psF (rowL Evt l.length (some (.row .look 8 0 l.length (encL l)))) (rowL Ev.Ask A.length (some (.row .look 13 0 A.length (encL A)))) f a d b (rowL Vl m.length (some (.row .look 3 0 m.length (encL m)))) (putK (.string (keyS a d (listT Vl (.fr 3 m.length c fun i => encL m (0 + i))))) (.bool true) es)))), some (.row .look 3 0 m.length (encL m)), some (.cells [.int .i64 a, .int .u64 d, .bool b, .slice (some ⟨4, 0, some 0⟩) m.length c] true 0), none, none]) (need (rowB Evt l.length cl (some (.row .look 8 0 l.length (encL l))) && rowB Ev.Ask A.length ca (some (.row .look 13 0 A.length (encL A))) && rowB Vl m.length c (some (.row .look 3 0 m.length (encL m))) && okS (rowL Evt l.length (some (.row .look 8 0 l.length (encL l)))) (rowL Ev.Ask A.length (some (.row .look 13 0 A.length (encL A)))) (f + 1) a d b (rowL Vl m.length (some (.row .look 3 0 m.length (encL m))))) (K (.returned (.bool (Prod.fst (plF (rowL Evt l.length (some (.row .look 8 0 l.length (encL l)))) (rowL Ev.Ask A.length (some (.row .look 13 0 A.length (encL A)))) f a d b (rowL Vl m.length (some (.row .look 3 0 m.length (encL m)))) (Prod.snd (psF (rowL Evt l.length (some (.row .look 8 0 l.length (encL l)))) (rowL Ev.Ask A.length (some (.row .look 13 0 A.length (encL A)))) f a d b (rowL Vl m.length (some (.row .look 3 0 m.length (encL m)))) (putK (.string (keyS a d (listT Vl (.fr 3 m.length c fun i => encL m (0 + i))))) (.bool true) es))))))) [some (.cells [.slice (some ⟨1, 0, some 0⟩) l.length cl, .slice (some ⟨2, 0, some 0⟩) A.length ca, .map (some 3)] true 0), some (.row .look 8 0 l.length (encL l)), some (.row .look 13 0 A.length (encL A)), some (AObj.omap Kk.s Vk.b (Prod.snd (plF (rowL Evt l.length (some (.row .look 8 0 l.length (encL l)))) (rowL Ev.Ask A.length (some (.row .look 13 0 A.length (encL A)))) f a d b (rowL Vl m.length (some (.row .look 3 0 m.length (encL m)))) (Prod.snd (psF (rowL Evt l.length (some (.row .look 8 0 l.length (encL l)))) (rowL Ev.Ask A.length (some (.row .look 13 0 A.length (encL A)))) f a d b (rowL Vl m.length (some (.row .look 3 0 m.length (encL m)))) (putK (.string (keyS a d (listT Vl (.fr 3 m.length c fun i => encL m (0 + i))))) (.bool true) es)))))), some (.row .look 3 0 m.length (encL m)), some (.cells [.int .i64 a, .int .u64 d, .bool b, .slice (some ⟨4, 0, some 0⟩)
 m.length c] true 0), none, none, none]))))))) := by kernel_rfl
theorem vc_gon (l : List Evt) (cl : Nat) (A : List Ask) (ca : Nat) (es : Es) (f : Nat) (β : Bs) (K : AE → List (Option AObj) → Prop) : lawE Try.prog (toldP f) 100 20 β (fun _ => 0) (cnOf 4 fun _ => slG) (fun _ _ => False) 16 [.pointer (some ⟨0, 0, none⟩), .agg ⟨svN⟩] (mkS (viN l cl A ca es)) (outK K) =
 (br (boolV (getK (.string (keyS (0 : Int) (0 : Int) [])) (.bool false) es)) (K (.returned (.bool false)) [some (.cells [.slice (some ⟨1, 0, some 0⟩) l.length cl, .slice (some ⟨2, 0, some 0⟩) A.length ca, .map (some 3)] true 0), some (.row .look 8 0 l.length (encL l)), some (.row .look 13 0 A.length (encL A)), some (AObj.omap Kk.s Vk.b es), some (.cells [.int .i64 (0 : Int), .int .u64 (0 : Int), .bool false, .slice none 0 0] true 0), none]) (need (rowB Evt l.length cl (some (.row .look 8 0 l.length (encL l))) && rowB Ev.Ask A.length ca (some (.row .look 13 0 A.length (encL A))) && okS (rowL Evt l.length (some (.row .look 8 0 l.length (encL l)))) (rowL Ev.Ask A.length (some (.row .look 13 0 A.length (encL A)))) (f + 1) (0 : Int) (0 : Int) false [] && (Nat.beq l.length 0 || Evt.k (List.getD (rowL Evt l.length (some (.row .look 8 0 l.length (encL l)))) 0 Enc.dflt) == (3 : Int))) (br (Prod.fst (psF (rowL Evt l.length (some (.row .look 8 0 l.length (encL l)))) (rowL Ev.Ask A.length (some (.row .look 13 0 A.length (encL A)))) f (0 : Int) (0 : Int) false [] (putK (.string (keyS (0 : Int) (0 : Int) [])) (.bool true) es))) (K (.returned (.bool true)) [some (.cells [.slice (some ⟨1, 0, some 0⟩) l.length cl, .slice (some ⟨2, 0, some 0⟩) A.length ca, .map (some 3)] true 0), some (.row .look 8 0 l.length (encL l)), some (.row .look 13 0 A.length (encL A)), some (AObj.omap Kk.s Vk.b (Prod.snd (psF (rowL Evt l.length (some (.row .look 8 0 l.length (encL l)))) (rowL Ev.Ask A.length (some (.row .look 13 0 A.length (encL A)))) f (0 : Int) (0 : Int) false [] (putK (.string (keyS (0 : Int) (0 : Int) [])) (.bool true) es)))), some (.cells [.int .i64 (0 : Int), .int .u64 (0 : Int), .bool false, .slice none 0 0] true 0), none, none]) (need (rowB Evt l.length cl (some (.row .look 8 0 l.length (encL l))) && rowB Ev.Ask A.length ca (some (.row .look 13 0 A.length (encL A))) && okS (rowL Evt l.length (some (.row .look 8 0 l.length (encL l)))) (rowL Ev.Ask A.length (some (.row .look 13 0 A.length (encL A)))) (f + 1) (0 : Int) (0 : Int) false [] && (Nat.beq l.length 0 || Evt.k (List.getD (rowL Evt l.length (some (.row .look 8 0 l.length (encL l)))) 0 Enc.dflt) == (3 : Int))) (K (.returned (.bool (Prod.fst (plF (rowL Evt l.length (some (.row .look 8 0 l.length (encL l)))) (rowL Ev.Ask A.length (some (.row .look 13 0 A.length (encL A)))) f (0 : Int) (0 : Int) false [] (Prod.snd (psF (rowL Evt l.length (some (.row .look 8 0 l.length (encL l)))) (rowL Ev.Ask A.length (some (.row .look 13 0 A.length (encL A)))) f (0 : Int) (0 : Int) false [] (putK (.string (keyS (0 : Int) (0 : Int) [])) (.bool true) es))))))) [some (.cells [.slice (some ⟨1, 0, some 0⟩) l.length cl, .slice (some ⟨2, 0, some 0⟩) A.length ca, .map (some 3)] true 0), some (.row .look 8 0 l.length (encL l)), some (.row .look 13 0 A.length (encL A)), some (AObj.omap Kk.s Vk.b (Prod.snd (plF (rowL Evt l.length (some (.row .look 8 0 l.length (encL l)))) (rowL Ev.Ask A.length (some (.row .look 13 0 A.length (encL A)))) f (0 : Int) (0 : Int) false [] (Prod.snd (psF (rowL Evt l.length (some (.row .look 8 0 l.length (encL l)))) (rowL Ev.Ask A.length (some (.row .look 13 0 A.length (encL A)))) f (0 : Int) (0 : Int) false [] (putK (.string (keyS (0 : Int) (0 : Int) [])) (.bool true) es)))))), some (.cells [.int .i64 (0 : Int), .int .u64 (0 : Int), .bool false, .slice none 0 0] true 0), none, none, none]))))) := by kernel_rfl
end Go.Proofs.Ytjibiphgbhlhkaa.Ev
end
section
set_option maxRecDepth 100000
namespace Go.Proofs.Ytjibiphgbhlhkaa.Ev
open Go Go.Proofs Go.RowKit
theorem goes_law {l : List Evt} {cl : Nat} {A : List Ask} {ca : Nat} {es : Es} {a d : Int} {b : Bool} {m : List Vl} {c : Nat} {f : Nat} {β : Bs} (hcl : cl ≤ 1) (hca : ca ≤ 1) (hc : c ≤ 1) (ho : OkS l A (f + 1) a d b m) (bb : Bool) :
  lawE Try.prog (toldP f) 100 20 β (fun _ => 0) (cnOf 5 fun _ => slG) (fun _ _ => False) 16 [.pointer (some ⟨0, 0, none⟩), .agg ⟨svV a d b m c⟩] (mkS (viS l cl A ca es m))
   (outR (effK ⟨bb, viS l cl A ca es m, .returned (.bool (goL l A (f + 1) a d b m es).1), [.to (xO l.length cl A.length ca), .same, .same, .to (.omap .s .b (goL l A (f + 1) a d b m es).2), .same], []⟩)) := by
 have hout : ∀ s : Sp, outR (effK s) = outK fun r l => ∃ l2, objsR l l2 ∧ effK s r (mkS l2) := fun s => rfl
 rw [hout, vc_go]
 have hL := ho.hl
 have hA := ho.hA
 have hM := ho.hm
 have hF : goL l A (f + 1) a d b m es = cond (seenB (keyS a d m) es) (false, es) (orE (psF l A f a d b m (addS (keyS a d m) es)) (plF l A f a d b m)) := rfl
 generalize goL l A (f + 1) a d b m es = r at hF ⊢
 have o3 : okT Vl (.fr 3 m.length c fun i => encL m (0 + i)) = true := by rw [encZ]; exact okT_tdL (allV _) (by omega) hc
 have e3 : listT Vl (.fr 3 m.length c fun i => encL m (0 + i)) = m := by rw [encZ]; exact listT_tdL m c
 have hky : okKy [Ta.agg [Td.sc (Value.int IntKind.i64 a), Td.sc (Value.int IntKind.u64 d), Td.sc (Value.bool b), Td.fr 3 (List.length m) c fun i => encL m (0 + i)]] = true := by
  show (okT Vl _ && Nat.ble (listT Vl _).length 1000) = true
  rw [o3, e3, Nat.ble_eq_true_of_le hM]; rfl
 have rb1 : rowB Evt l.length cl (some (.row .look 8 0 l.length (encL l))) = true := rowB_of .look rfl rfl ho.le (by omega) hcl
 have rb2 : rowB Ask A.length ca (some (.row .look 13 0 A.length (encL A))) = true := rowB_of .look rfl rfl ho.Ae (by omega) hca
 have rb3 : rowB Vl m.length c (some (.row .look 3 0 m.length (encL m))) = true := rowB_of (α := Vl) .look rfl rfl (allV _) (by omega) hc
 have hk : okS l A (f + 1) a d b m = true := okS_iff.2 ho
 have c1 : Nat.ble (0 + m.length) m.length = true := by simp
 have hse : boolV (getK (.string (keyS a d m)) (.bool false) es) = seenB (keyS a d m) es := rfl
 have had : putK (.string (keyS a d m)) (.bool true) es = addS (keyS a d m) es := rfl
 simp only [c1, Bool.and_self, need_t, hky, e3, rowL_enc, rb1, rb2, rb3, hk, hse, had]
 cases hq : seenB (keyS a d m) es with
 | true =>
  rw [hq, cond_true] at hF
  subst hF
  simp only [br_t]
  exact effG rfl rfl
 | false =>
  rw [hq, cond_false] at hF
  simp only [br_f]
  unfold orE at hF
  cases hp : (psF l A f a d b m (addS (keyS a d m) es)).1 with
  | true =>
   rw [hp, cond_true] at hF
   subst hF
   simp only [br_t]
   exact effG rfl rfl
  | false =>
   rw [hp, cond_false] at hF
   subst hF
   simp only [br_f]
   exact effG rfl rfl
theorem goesN_law {l : List Evt} {cl : Nat} {A : List Ask} {ca : Nat} {es : Es} {f : Nat} {β : Bs} (hcl : cl ≤ 1) (hca : ca ≤ 1) (ho : OkS l A (f + 1) 0 0 false []) (h0 : l.length = 0 ∨ (l.getD 0 Enc.dflt).k = 3) (bb : Bool) :
  lawE Try.prog (toldP f) 100 20 β (fun _ => 0) (cnOf 4 fun _ => slG) (fun _ _ => False) 16 [.pointer (some ⟨0, 0, none⟩), .agg ⟨svN⟩] (mkS (viN l cl A ca es))
   (outR (effK ⟨bb, viN l cl A ca es, .returned (.bool (goL l A (f + 1) 0 0 false [] es).1), [.to (xO l.length cl A.length ca), .same, .same, .to (.omap .s .b (goL l A (f + 1) 0 0 false [] es).2)], []⟩)) := by
 have hout : ∀ s : Sp, outR (effK s) = outK fun r l => ∃ l2, objsR l l2 ∧ effK s r (mkS l2) := fun s => rfl
 rw [hout, vc_gon]
 have hL := ho.hl
 have hA := ho.hA
 have hF : goL l A (f + 1) 0 0 false [] es = cond (seenB (keyS 0 0 []) es) (false, es) (orE (psF l A f 0 0 false [] (addS (keyS 0 0 []) es)) (plF l A f 0 0 false [])) := rfl
 generalize goL l A (f + 1) 0 0 false [] es = r at hF ⊢
 have rb1 : rowB Evt l.length cl (some (.row .look 8 0 l.length (encL l))) = true := rowB_of .look rfl rfl ho.le (by omega) hcl
 have rb2 : rowB Ask A.length ca (some (.row .look 13 0 A.length (encL A))) = true := rowB_of .look rfl rfl ho.Ae (by omega) hca
 have hk : okS l A (f + 1) 0 0 false [] = true := okS_iff.2 ho
 have h0' : (Nat.beq l.length 0 || (l.getD 0 Enc.dflt).k == 3) = true := by
  rcases h0 with h | h
  ·rw [h]; rfl
  ·rw [h]; simp
 have hse : boolV (getK (.string (keyS 0 0 [])) (.bool false) es) = seenB (keyS 0 0 []) es := rfl
 have had : putK (.string (keyS 0 0 [])) (.bool true) es = addS (keyS 0 0 []) es := rfl
 simp only [Bool.and_self, need_t, rowL_enc, rb1, rb2, hk, hse, had, h0']
 cases hq : seenB (keyS 0 0 []) es with
 | true =>
  rw [hq, cond_true] at hF
  subst hF
  simp only [br_t]
  exact effGN rfl rfl
 | false =>
  rw [hq, cond_false] at hF
  simp only [br_f]
  unfold orE at hF
  cases hp : (psF l A f 0 0 false [] (addS (keyS 0 0 []) es)).1 with
  | true =>
   rw [hp, cond_true] at hF
   subst hF
   simp only [br_t]
   exact effGN rfl rfl
  | false =>
   rw [hp, cond_false] at hF
   subst hF
   simp only [br_f]
   exact effGN rfl rfl
theorem goes_told : ∀ f : Nat, EffOk Try.prog 16 (pickS (spG (fun l A => goL l A f) f)) ∧ ToldS Try.prog (toldG f)
 | 0 => by
  have h : EffOk Try.prog 16 (pickS (spG (fun l A => goL l A 0) 0)) :=
   step_told (fun l cl A ca es a d b m c bb hcl hca hc ho => absurd ho.mu (Nat.not_lt_zero _)) (fun l cl A ca es bb hcl hca ho h0 => absurd ho.mu (Nat.not_lt_zero _))
  exact ⟨h, Told.effT_ok follows toldF_ok h⟩
 | f + 1 => by
  have hG := (goes_told f).2
  have h : EffOk Try.prog 16 (pickS (spG (fun l A => goL l A (f + 1)) (f + 1))) :=
   step_told (fun l cl A ca es a d b m c bb hcl hca hc ho => ⟨toldP f, 100, 20, fun _ => 0, fun _ => slG, _, toldP_ok hG, fun β hβ => goes_law hcl hca hc ho bb⟩)
    (fun l cl A ca es bb hcl hca ho h0 => ⟨toldP f, 100, 20, fun _ => 0, fun _ => slG, _, toldP_ok hG, fun β hβ => goesN_law hcl hca ho h0 bb⟩)
  exact ⟨h, Told.effT_ok follows toldF_ok h⟩
end Go.Proofs.Ytjibiphgbhlhkaa.Ev
end
section
namespace Go.Proofs.Ytjibiphgbhlhkaa.Ev
open Go Go.Proofs Go.RowKit
def fuelH : Nat := 400
def opnS (o : Option AObj) : Option AObj := match o with
 | some (.map [] _) => some (.omap .s .b [])
 | o => o
theorem opnS_ok (l : List (Option AObj)) : viewR l (l.map opnS) := by
 refine ⟨by simp, fun i o2 h => ?_⟩
 rw [List.getElem?_map] at h
 cases hq : l[i]? with
 | none => rw [hq] at h; cases h
 | some o =>
  rw [hq] at h
  cases o with
  | none => cases h
  | some o =>
   by_cases ho : ∃ ck, o = .map [] ck
   ·obtain ⟨ck, rfl⟩ := ho
    cases h
    exact ⟨_, rfl, fun _ => rfl, fun ρ s w h => h.openMap .s .b⟩
   ·have : opnS (some o) = some o := by
     unfold opnS
     split
     ·rename_i ck heq; cases heq; exact absurd ⟨_, rfl⟩ ho
     ·rfl
    rw [Option.map_some, this] at h
    cases h
    exact ⟨_, rfl, fun h => h, fun _ _ _ h => h⟩
theorem viewR.trans {l m n : List (Option AObj)} (h : viewR l m) (k : viewR m n) : viewR l n := by
 refine ⟨k.1.trans h.1, fun i o3 e => ?_⟩
 obtain ⟨o2, e2, a2, b2⟩ := k.2 i o3 e
 obtain ⟨o1, e1, a1, b1⟩ := h.2 i o2 e2
 exact ⟨o1, e1, fun h => a1 (a2 h), fun ρ s w h => b2 ρ s w (b1 ρ s w h)⟩
def spH (args : List Value) (objs : List (Option AObj)) : Option SpT := spG (fun l A => goL l A fuelH) fuelH args (objs.map opnS)
theorem goesH_told : EffOk Try.prog 16 (pickS spH) := by
 intro args objs s hs hb
 obtain ⟨h1, h2⟩ := (goes_told fuelH).1 args (objs.map opnS) s hs hb
 exact ⟨(opnS_ok objs).trans h1, h2⟩
def toldR : Ev.Told := (((toldG fuelH).tree 15 okMy ansMy).effT 14 spRd).effT 16 spH
theorem toldR_ok : ToldS Try.prog toldR := Told.effT_ok follows (Told.effT_ok follows (Told.tree_ok (goes_told fuelH).2 may_told) read_told) goesH_told
end Go.Proofs.Ytjibiphgbhlhkaa.Ev
end
section
set_option maxRecDepth 1000000
namespace Go.Proofs.Ytjibiphgbhlhkaa.Ev
open Go Go.Proofs
def slFt : List Nat := [0, 2, 3, 4, 13, 14, 15]
def lvFt : AX → List Nat := fun x => slFt
def FFt (l : List Evt) (c : Nat) (n : Nat) (N i : Int) : AFr := mkFD 36 [(0, .slice (some ⟨0, 0, some 0⟩) l.length c), (2, .pointer (some ⟨1, 0, none⟩)), (3, .slice (some ⟨2, 0, some 0⟩) n 1), (4, .int .i64 N), (13, .slice (some ⟨2, 0, some 0⟩) n 1), (14, .int .i64 (Int.ofNat n)), (15, .int .i64 i)] [ADef.mk (Fn.func 13) [] [.pointer (some ⟨1, 0, none⟩)]]
def SFt (l : List Evt) (A : List Ask) : ASt := mkS [some (rowO .look l), some (.cells [.bool false] true 0), some (rowO .mine A)]
def plK (A : List Ask) (N : Int) : Nat → List Ask
 | 0 => A
 | k + 1 => (plK A N k).set k { (plK A N k).getD k Enc.dflt with pl := mayB ((plK A N k).getD k Enc.dflt) N }
def asks (l : List Evt) : List Ask := plK (rdA l) (rdN l) (rdA l).length
def exFt (l : List Evt) (c : Nat) : Nat → Kt → Prop := fun b K => K (.exit b) (FFt l c (rdA l).length (rdN l) (rdA l).length) (SFt l (asks l))
def shpFt (l : List Evt) (c : Nat) (A : List Ask) (N i' : Int) : AFr × ASt := (FFt l c A.length N i', SFt l A)
theorem vc_ft (l : List Evt) (c : Nat) (β : Bs) (K : AE → List (Option AObj) → Prop) : lawE Try.prog toldR 100 20 β (fun _ => 0) (cnOf 1 fun _ => slFt) (exFt l c) 9 [.slice (some ⟨0, 0, some 0⟩) l.length c] (mkS [some (rowO .look l)]) (outK K) =
 (need (rowB Evt l.length c (some (.row .look 8 0 l.length (encL l))) && rdOk (rowL Evt l.length (some (.row .look 8 0 l.length (encL l))))) (LoopJ Try.prog β (exFt l c) 0 (loopOf Try.prog 9 0) (FFt l c (List.length (rdA (rowL Evt l.length (some (.row .look 8 0 l.length (encL l)))))) (rdN (rowL Evt l.length (some (.row .look 8 0 l.length (encL l))))) (0 : Int)) (SFt l (rdA (rowL Evt l.length (some (.row .look 8 0 l.length (encL l)))))) ∧ need (rowB Evt l.length c (opnS (some (.row .look 8 0 l.length (encL l)))) && rowB Ev.Ask (List.length (rdA l)) 1 (opnS (some (.row .mine 13 0 (List.length (asks l)) (encL (asks l))))) && okS (rowL Evt l.length (opnS (some (.row .look 8 0 l.length (encL l))))) (rowL Ev.Ask (List.length (rdA l)) (opnS (some (.row .mine 13 0 (List.length (asks l)) (encL (asks l)))))) fuelH (0 : Int) (0 : Int) false [] && (Nat.beq l.length 0 || Evt.k (List.getD (rowL Evt l.length (opnS (some (.row .look 8 0 l.length (encL l))))) 0 Enc.dflt) == (3 : Int))) (K (.returned (.bool (Prod.fst (goL (rowL Evt l.length (opnS (some (.row .look 8 0 l.length (encL l))))) (rowL Ev.Ask (List.length (rdA l)) (opnS (some (.row .mine 13 0 (List.length (asks l)) (encL (asks l)))))) fuelH (0 : Int) (0 : Int) false [] [])))) [some (.row .look 8 0 l.length (encL l)), some (.cells [.bool (Prod.fst (goL (rowL Evt l.length (opnS (some (.row .look 8 0 l.length (encL l))))) (rowL Ev.Ask (List.length (rdA l)) (opnS (some (.row .mine 13 0 (List.length (asks l)) (encL (asks l)))))) fuelH (0 : Int) (0 : Int) false [] []))] true 0), some (.row .mine 13 0 (List.length (asks l)) (encL (asks l))), some (AObj.omap Kk.s Vk.b (Prod.snd (goL (rowL Evt l.length (opnS (some (.row .look 8 0 l.length (encL l))))) (rowL Ev.Ask (List.length (rdA l)) (opnS (some (.row .mine 13 0 (List.length (asks l)) (encL (asks l)))))) fuelH (0 : Int) (0 : Int) false [] []))), some (.cells [.slice (some ⟨0, 0, some 0⟩) l.length c, .slice (some ⟨2, 0, some 0⟩) (List.length (rdA l)) 1, .map (some 3)] true 0), none, some (.cells [] true 0)]))) := by kernel_rfl
theorem vc_ft_r (l : List Evt) (c : Nat) (A : List Ask) (N i : Int) (β : Bs) (Nx : Kt) (ex : Nat → Kt → Prop) : roundJ Try.prog toldR 100 20 β (fun _ => 0) (cnOf 1 fun _ => slFt) ex 9 0 1 lvFt (FFt l c A.length N i) (SFt l A) Nx =
 (br (decide (i < Int.ofNat A.length)) (need (decide ((0 : Int) ≤ i)) (need (Nat.blt (Int.toNat i) A.length) (need (Nat.ble 0 (0 + Int.toNat i) && Nat.blt (0 + Int.toNat i) A.length) (need (true && Nat.ble (0 + List.length (Evt.a (Ask.ev (List.getD A (0 + Int.toNat i) Enc.dflt)))) (List.length (Evt.a (Ask.ev (List.getD A (0 + Int.toNat i) Enc.dflt))))) (need (true && Nat.ble (0 + List.length (Evt.v (Ask.ev (List.getD A (0 + Int.toNat i) Enc.dflt)))) (List.length (Evt.v (Ask.ev (List.getD A (0 + Int.toNat i) Enc.dflt))))) (need (true && Nat.ble (0 + List.length (Evt.m (Ask.ev (List.getD A (0 + Int.toNat i) Enc.dflt)))) (List.length (Evt.m (Ask.ev (List.getD A (0 + Int.toNat i) Enc.dflt))))) (need (true && Nat.ble (0 + List.length (Ask.vs (List.getD A (0 + Int.toNat i) Enc.dflt))) (List.length (Ask.vs (List.getD A (0 + Int.toNat i) Enc.dflt)))) (need (okMy [Ta.agg [.sc (.int .i64 (Evt.k (Ask.ev (List.getD A (0 + Int.toNat i) Enc.dflt)))), .sc (.int .i64 (Evt.s (Ask.ev (List.getD A (0 + Int.toNat i) Enc.dflt)))), .sc (.int .i64 (Evt.i (Ask.ev (List.getD A (0 + Int.toNat i) Enc.dflt)))), .sc (.bool (Evt.w (Ask.ev (List.getD A (0 + Int.toNat i) Enc.dflt)))), .sc (.int .i64 (Evt.e (Ask.ev (List.getD A (0 + Int.toNat i) Enc.dflt)))), .fr 1 (List.length (Evt.a (Ask.ev (List.getD A (0 + Int.toNat i) Enc.dflt)))) (Evt.ca (Ask.ev (List.getD A (0 + Int.toNat i) Enc.dflt))) fun i_1 => encL (Evt.a (Ask.ev (List.getD A (0 + Int.toNat i) Enc.dflt))) (0 + i_1), .fr 3 (List.length (Evt.v (Ask.ev (List.getD A (0 + Int.toNat i) Enc.dflt)))) (Evt.cv (Ask.ev (List.getD A (0 + Int.toNat i) Enc.dflt))) fun i_1 => encL (Evt.v (Ask.ev (List.getD A (0 + Int.toNat i) Enc.dflt))) (0 + i_1), .fr 3 (List.length (Evt.m (Ask.ev (List.getD A (0 + Int.toNat i) Enc.dflt)))) (Evt.cm (Ask.ev (List.getD A (0 + Int.toNat i) Enc.dflt))) fun i_1 => encL (Evt.m (Ask.ev (List.getD A (0 + Int.toNat i) Enc.dflt))) (0 + i_1), .fr 3 (List.length (Ask.vs (List.getD A (0 + Int.toNat i) Enc.dflt))) (Ask.cs (List.getD A (0 + Int.toNat i) Enc.dflt)) fun i_1 => encL (Ask.vs (List.getD A (0 + Int.toNat i) Enc.dflt)) (0 + i_1), .sc (.int .i64 (Ask.fr (List.getD A (0 + Int.toNat i) Enc.dflt))), .sc (.int .i64 (Ask.to (List.getD A (0 + Int.toNat i) Enc.dflt))), .sc (.bool (Ask.mu (List.getD A (0 + Int.toNat i) Enc.dflt))), .sc (.bool (Ask.pl (List.getD A (0 + Int.toNat i) Enc.dflt)))], Ta.cell (.sc (.int .i64 N))]) (need (decide ((0 : Int) ≤ i)) (need (Nat.blt (Int.toNat i) A.length) (need (Nat.blt (0 + Int.toNat i) A.length) (Nx .normal (mkFD 36 [(0, .slice (some ⟨0, 0, some 0⟩) l.length c), (2, .pointer (some ⟨1, 0, none⟩)), (3, .slice (some ⟨2, 0, some 0⟩) A.length 1), (4, .int .i64 N), (13, .slice (some ⟨2, 0, some 0⟩) A.length 1), (14, .int .i64 (Int.ofNat A.length)), (15, .int .i64 (IntKind.wrap .i64 (i + (1 : Int))))] [ADef.mk (Fn.func 13) [] [.pointer (some ⟨1, 0, none⟩)]]) (mkS [some (.row .look 8 0 l.length (encL l)), some (.cells [.bool false] true 0), some (.row .mine 13 0 A.length (putT (0 + Int.toNat i) 12 [.sc (.bool (mayB (myX (Evt.k (Ask.ev (List.getD A (0 + Int.toNat i) Enc.dflt))) (Evt.s (Ask.ev (List.getD A (0 + Int.toNat i) Enc.dflt))) (Evt.i (Ask.ev (List.getD A (0 + Int.toNat i) Enc.dflt))) (Evt.w (Ask.ev (List.getD A (0 + Int.toNat i) Enc.dflt))) (Evt.e (Ask.ev (List.getD A (0 + Int.toNat i) Enc.dflt))) (.fr 1 (List.length (Evt.a (Ask.ev (List.getD A (0 + Int.toNat i) Enc.dflt)))) (Evt.ca (Ask.ev (List.getD A (0 + Int.toNat i) Enc.dflt))) fun i_1 => encL (Evt.a (Ask.ev (List.getD A (0 + Int.toNat i) Enc.dflt))) (0 + i_1)) (.fr 3 (List.length (Evt.v (Ask.ev (List.getD A (0 + Int.toNat i) Enc.dflt)))) (Evt.cv (Ask.ev (List.getD A (0 + Int.toNat i) Enc.dflt))) fun i_1 => encL (Evt.v (Ask.ev (List.getD A (0 + Int.toNat i) Enc.dflt))) (0 + i_1)) (.fr 3 (List.length (Evt.m (Ask.ev (List.getD A (0 + Int.toNat i) Enc.dflt)))) (Evt.cm (Ask.ev (List.getD A (0 + Int.toNat i) Enc.dflt))) fun i_1 => encL (Evt.m (Ask.ev (List.getD A (0 + Int.toNat i) Enc.dflt))) (0 + i_1))
 (.fr 3 (List.length (Ask.vs (List.getD A (0 + Int.toNat i) Enc.dflt))) (Ask.cs (List.getD A (0 + Int.toNat i) Enc.dflt)) fun i_1 => encL (Ask.vs (List.getD A (0 + Int.toNat i) Enc.dflt)) (0 + i_1)) (Ask.fr (List.getD A (0 + Int.toNat i) Enc.dflt)) (Ask.to (List.getD A (0 + Int.toNat i) Enc.dflt)) (Ask.mu (List.getD A (0 + Int.toNat i) Enc.dflt)) (Ask.pl (List.getD A (0 + Int.toNat i) Enc.dflt))) N))] (encL A)))]))))))))))))) (onP Nx (.exit 0) (shpFt l c A N i))) := by kernel_rfl
end Go.Proofs.Ytjibiphgbhlhkaa.Ev
end
section
set_option maxRecDepth 100000
namespace Go.Proofs.Ytjibiphgbhlhkaa.Ev
open Go Go.Proofs Go.RowKit
theorem okA_dfl : okA Ask (Enc.dflt : Ask) = true := by rfl
theorem all_getD {A : List Ask} (h : A.all (okA Ask) = true) (k : Nat) : okA Ask (A.getD k Enc.dflt) = true := by
 by_cases hk : k < A.length
 ·exact all_get' h hk
 ·simp only [List.getD, List.getElem?_eq_none (Nat.le_of_not_lt hk)]; exact okA_dfl
theorem all_setK {A : List Ask} (h : A.all (okA Ask) = true) (k : Nat) {a : Ask} (ha : okA Ask a = true) : (A.set k a).all (okA Ask) = true := by
 rw [List.all_eq_true] at h ⊢
 intro b hb
 rcases List.mem_or_eq_of_mem_set hb with h1 | h1
 ·exact h b h1
 ·rw [h1]; exact ha
theorem okA_evd {x : Ask} (h : okA Ask x = true) : okA Evt x.ev = true ∧ x.cs ≤ 1 ∧ x.vs.length ≤ 1000000 := okA_ask_inv h
theorem rdK_ok {l : List Evt} (h : l.all (okA Evt) = true) : ∀ k, k ≤ l.length → (rdK l k).1.all (okA Ask) = true
 | 0, _ => rfl
 | k + 1, hk => by
  have ih := rdK_ok h k (by omega)
  have hx := all_get' h (show k < l.length by omega)
  show (rdS l (rdK l k) k).1.all (okA Ask) = true
  unfold rdS
  generalize l.getD k Enc.dflt = x at hx ⊢
  generalize rdK l k = p at ih ⊢
  obtain ⟨a1, a2, a3, a4, a5, a6⟩ := okA_ev_inv hx
  cases x.k == 3 with
  | true => exact ih
  | false =>
   cases x.k == 1 with
   | true =>
    show (p.1 ++ [askE x k l.length]).all (okA Ask) = true
    rw [List.all_append, ih]
    simp only [List.all_cons, List.all_nil, Bool.and_true, Bool.true_and]
    exact okA_ask hx a3 a4
   | false =>
    show (p.1.set _ _).all (okA Ask) = true
    refine all_setK ih _ ?_
    obtain ⟨q1, q2, q3⟩ := okA_evd (all_getD ih (intE x p.2.1).toNat)
    generalize p.1.getD (intE x p.2.1).toNat Enc.dflt = a at q1 q2 q3 ⊢
    unfold tldE
    cases a.ev.w with
    | true => exact okA_ask q1 q2 q3
    | false => exact okA_ask q1 a3 a4
theorem plK_len {A : List Ask} {N : Int} : ∀ k, (plK A N k).length = A.length
 | 0 => rfl
 | k + 1 => by show (List.set _ _ _).length = _; rw [List.length_set, plK_len k]
theorem plK_ok {A : List Ask} {N : Int} (h : A.all (okA Ask) = true) : ∀ k, (plK A N k).all (okA Ask) = true
 | 0 => h
 | k + 1 => by
  have ih := plK_ok (N := N) h k
  refine all_setK ih _ ?_
  obtain ⟨q1, q2, q3⟩ := okA_evd (all_getD ih k)
  exact okA_ask q1 q2 q3
theorem myX_enc (x : Ask) : myX x.ev.k x.ev.s x.ev.i x.ev.w x.ev.e (.fr 1 x.ev.a.length x.ev.ca fun i => encL x.ev.a (0 + i)) (.fr 3 x.ev.v.length x.ev.cv fun i => encL x.ev.v (0 + i)) (.fr 3 x.ev.m.length x.ev.cm fun i => encL x.ev.m (0 + i)) (.fr 3 x.vs.length x.cs fun i => encL x.vs (0 + i)) x.fr x.to x.mu x.pl = x := by
 simp only [encZ]
 have e1 := listT_tdL x.ev.a x.ev.ca
 have e2 := listT_tdL x.ev.v x.ev.cv
 have e3 := listT_tdL x.ev.m x.ev.cm
 have e4 := listT_tdL x.vs x.cs
 have h1 : listT Int (.fr 1 x.ev.a.length x.ev.ca (encL x.ev.a)) = x.ev.a := e1
 have h2 : listT Vl (.fr 3 x.ev.v.length x.ev.cv (encL x.ev.v)) = x.ev.v := e2
 have h3 : listT Vl (.fr 3 x.ev.m.length x.ev.cm (encL x.ev.m)) = x.ev.m := e3
 have h4 : listT Vl (.fr 3 x.vs.length x.cs (encL x.vs)) = x.vs := e4
 unfold myX
 rw [h1, h2, h3, h4]
 rfl
theorem okMy_of {x : Ask} {N : Int} (hx : okA Ask x = true) : okMy [.agg [.sc (.int .i64 x.ev.k), .sc (.int .i64 x.ev.s), .sc (.int .i64 x.ev.i), .sc (.bool x.ev.w), .sc (.int .i64 x.ev.e), .fr 1 x.ev.a.length x.ev.ca fun i => encL x.ev.a (0 + i), .fr 3 x.ev.v.length x.ev.cv fun i => encL x.ev.v (0 + i), .fr 3 x.ev.m.length x.ev.cm fun i => encL x.ev.m (0 + i), .fr 3 x.vs.length x.cs fun i => encL x.vs (0 + i), .sc (.int .i64 x.fr), .sc (.int .i64 x.to), .sc (.bool x.mu), .sc (.bool x.pl)], .cell (.sc (.int .i64 N))] = true := by
 obtain ⟨q1, q2, q3⟩ := okA_evd hx
 obtain ⟨a1, a2, a3, a4, a5, a6⟩ := okA_ev_inv q1
 show (okT Int _ && okT Vl _ && okT Vl _ && okT Vl _) = true
 have o1 : okT Int (.fr 1 x.ev.a.length x.ev.ca fun i => encL x.ev.a (0 + i)) = true := by rw [encZ]; exact okT_tdL (allI _) a2 a1
 have o2 : okT Vl (.fr 3 x.ev.v.length x.ev.cv fun i => encL x.ev.v (0 + i)) = true := by rw [encZ]; exact okT_tdL (allV _) a4 a3
 have o3 : okT Vl (.fr 3 x.ev.m.length x.ev.cm fun i => encL x.ev.m (0 + i)) = true := by rw [encZ]; exact okT_tdL (allV _) a6 a5
 have o4 : okT Vl (.fr 3 x.vs.length x.cs fun i => encL x.vs (0 + i)) = true := by rw [encZ]; exact okT_tdL (allV _) q3 q2
 rw [o1, o2, o3, o4]; rfl
theorem ft_round {l : List Evt} {c : Nat} {A : List Ask} {N : Int} {β : Bs} (hβ : β.X.length = 1) (hA : A.length ≤ 1000) (ho : A.all (okA Ask) = true) (Kf : Kt → Prop) (hKf : ∀ K, Kf K → K (.exit 0) (FFt l c A.length N A.length) (SFt l (plK A N A.length))) (k : Nat) (hk : k ≤ A.length) (K : Kt) (hK : Kf K) :
  J Try.prog β (loopOf Try.prog 9 0) (FFt l c A.length N (k : Nat)) (SFt l (plK A N k)) (Nn β (fun k => k ≤ A.length) (fun k => A.length - k) (fun k : Nat => FFt l c A.length N (k : Nat)) (fun k => SFt l (plK A N k)) k K) := by
 refine roundJ_ok (E := 1) (lvs := fun _ => slFt) (un := fun _ => 0) (fuel := 100) (n := 20) (ex := fun _ _ => False) follows toldR_ok hβ (lv := lvFt) ?_
 have hlen := plK_len (A := A) (N := N) k
 have hx := all_getD (plK_ok (N := N) ho k) k
 have hnx : ∀ (st : ASt) (f : AFr), Seen β f st (FFt l c A.length N ((k + 1 : Nat) : Int)) (SFt l (plK A N (k + 1))) → k < A.length → Nn β (fun k => k ≤ A.length) (fun k => A.length - k) (fun k : Nat => FFt l c A.length N (k : Nat)) (fun k => SFt l (plK A N k)) k K .normal f st := fun st f h hkn =>
  Nn.next (I := fun k => k ≤ A.length) (m := fun k => A.length - k) (F := fun k : Nat => FFt l c A.length N (k : Nat)) (S := fun k => SFt l (plK A N k)) (p := k) (k + 1) hkn (by omega) h
 have hex : k = A.length → Nn β (fun k => k ≤ A.length) (fun k => A.length - k) (fun k : Nat => FFt l c A.length N (k : Nat)) (fun k => SFt l (plK A N k)) k K (.exit 0) (FFt l c A.length N (k : Nat)) (SFt l (plK A N k)) := fun h => by
  subst h; exact Nn.exit (Seen.refl _ _ _) (hKf K hK)
 generalize Nn β (fun k => k ≤ A.length) (fun k => A.length - k) (fun k : Nat => FFt l c A.length N (k : Nat)) (fun k => SFt l (plK A N k)) k K = Nx at hnx hex ⊢
 have hs : plK A N (k + 1) = (plK A N k).set k { (plK A N k).getD k Enc.dflt with pl := mayB ((plK A N k).getD k Enc.dflt) N } := rfl
 rw [hs] at hnx
 generalize plK A N k = B at hlen hx hnx hex ⊢
 rw [← hlen] at hk hnx hex hA ⊢
 clear hs
 rw [vc_ft_r]
 by_cases hkn : k < B.length
 ·have c1 : decide ((k : Int) < Int.ofNat B.length) = true := by simpa using hkn
  have c2 : decide ((0 : Int) ≤ (k : Int)) = true := by simp
  have e0 : Int.toNat (k : Int) = k := Int.toNat_natCast k
  have c3 : Nat.blt k B.length = true := by simpa using hkn
  have c5 : ∀ q, Nat.ble 0 q = true := fun q => by simp
  have c6 : ∀ q, Nat.ble q q = true := fun q => by simp
  have hw : IntKind.wrap .i64 ((k : Int) + 1) = ((k + 1 : Nat) : Int) := w64 (by omega) (by omega)
  simp only [c1, c2, e0, Nat.zero_add k, c3, c5, Bool.true_and, Bool.and_self, br_t, need_t, hw]
  obtain ⟨a, ha⟩ : ∃ a, B.getD k Enc.dflt = a := ⟨_, rfl⟩
  rw [ha] at hx hnx ⊢
  have c7 : ∀ q, Nat.ble (0 + q) q = true := fun q => by simp
  simp only [c7, need_t, okMy_of (N := N) hx, myX_enc]
  refine hnx _ _ (Seen.objs rfl fun q o2 h => ?_) hkn
  match q, h with
  | 0, h => cases h; exact ⟨_, rfl, rfl, fun _ _ _ h => h⟩
  | 1, h => cases h; exact ⟨_, rfl, rfl, fun _ _ _ h => h⟩
  | 2, h =>
   cases h
   exact ⟨_, rfl, rfl, fun ρ s w h => put_row (by rw [List.length_set]) (put_pl (g := encL B) (A := B) hkn (fun _ _ _ => rfl) a (mayB a N) ha) h⟩
  | q + 3, h => simp at h
 ·have c1 : decide ((k : Int) < Int.ofNat B.length) = false := by simpa using hkn
  simp only [c1, br_f]
  exact hex (by omega)
def fitsB (l : List Evt) : Bool := (goL l (asks l) fuelH 0 0 false [] []).1
def fitOk (l : List Evt) : Bool := rdOk l && okS l (asks l) fuelH 0 0 false [] && (Nat.beq l.length 0 || (l.getD 0 Enc.dflt).k == 3)
def spFt (args : List Value) (objs : List (Option AObj)) : Option SpT := match args, objs with
 | [.slice (some ⟨0, 0, some 0⟩) n c], [o0] => some (.one ⟨rowB Evt n c o0 && fitOk (rowL Evt n o0), [some (rowO .look (rowL Evt n o0))], .returned (.bool (fitsB (rowL Evt n o0))), [.same], []⟩)
 | _, _ => none
theorem fitsH_told : EffOk Try.prog 9 (pickS spFt) := by
 intro args objs s hs hb
 unfold pickS spFt at hs
 split at hs
 ·rename_i n c o0
  simp only [Option.map_some, Option.some.injEq, SpT.pick] at hs
  subst hs
  have hb' := hb
  simp only [Bool.and_eq_true] at hb'
  obtain ⟨b1, b2⟩ := hb'
  obtain ⟨l1, m1, c1, v1⟩ := rowB_ok b1
  generalize hB : (rowB Evt n c o0 && fitOk (rowL Evt n o0)) = B at hb
  refine ⟨⟨rfl, fun i o h => ?_⟩, ?_⟩
  ·match i, h with
   | 0, h => cases h; obtain ⟨q, rfl, hq⟩ := v1; exact ⟨q, rfl, (fun h => by cases h), hq⟩
   | _ + 1, h => simp at h
  refine ⟨toldR, 100, 20, fun _ => 0, fun _ => slFt, exFt (rowL Evt n o0) c, toldR_ok, fun β hβ => ?_⟩
  generalize rowL Evt n o0 = l at *
  subst l1
  unfold fitOk at b2
  simp only [Bool.and_eq_true] at b2
  obtain ⟨⟨r1, r2⟩, r3⟩ := b2
  have ho := okS_iff.1 r2
  have hL := ho.hl
  have hA := ho.hA
  have hlen : (asks l).length = (rdA l).length := plK_len _
  have hall : (rdA l).all (okA Ask) = true := rdK_ok ho.le _ (Nat.le_refl _)
  have hout : ∀ s : Sp, outR (effK s) = outK fun r l => ∃ l2, objsR l l2 ∧ effK s r (mkS l2) := fun s => rfl
  rw [hout]
  refine (vc_ft l c β _).mpr ?_
  have hopn : ∀ (k : Rk) (es lo m : Nat) (g : Nat → Nat → Td), opnS (some (.row k es lo m g)) = some (.row k es lo m g) := fun _ _ _ _ _ => rfl
  have rb1 : rowB Evt l.length c (some (.row .look 8 0 l.length (encL l))) = true := rowB_of .look rfl rfl ho.le (by omega) c1
  have rb2 : rowB Ask (asks l).length 1 (some (.row .mine 13 0 (asks l).length (encL (asks l)))) = true := rowB_of .mine rfl rfl ho.Ae (by omega) (Nat.le_refl _)
  simp only [hopn, rowL_enc, ← hlen, rb1, rb2, r1, r2, r3, Bool.and_self, need_t]
  refine ⟨?_, ?_⟩
  ·rw [hlen]
   exact loop_rule (fun k => k ≤ (rdA l).length) (fun k : Nat => FFt l c (rdA l).length (rdN l) (k : Nat)) (fun k => SFt l (plK (rdA l) (rdN l) k)) (fun k => (rdA l).length - k) (fun k hk K hK => ft_round hβ (by omega) hall (exFt l c 0) (fun K h => h) k hk K hK) 0 (Nat.zero_le _)
  ·refine ⟨_, objsR.refl _, effK_none rfl (fun i o h => ?_) rfl⟩
   match i, h with
   | 0, h => cases h
   | i + 1, h => simp at h
 ·cases hs
end Go.Proofs.Ytjibiphgbhlhkaa.Ev
end
