/-
  The first of numbers that is no cell's: told to the evaluator.
-/
import Derived.Test.YtjibiphgbhlhkaaQ22
set_option linter.unusedVariables false
set_option linter.unusedSimpArgs false
section
set_option maxRecDepth 100000
namespace Go.Proofs.Ytjibiphgbhlhkaa.Ev
open Go Go.Proofs Go.RowKit
theorem ixG_yes {a : List Int} {N : Int} {r i : Nat} (h : outN N (a.getD i Enc.dflt) = true) : ixG a N (r + 1) i = Int.ofNat i := by unfold ixG; rw [h]; rfl
theorem ixG_nx {a : List Int} {N : Int} {r i : Nat} (h : outN N (a.getD i Enc.dflt) = false) : ixG a N (r + 1) i = ixG a N r (i + 1) := by rw [ixG.eq_def]; simp only [h, cond_false]
theorem ixG_no {a : List Int} {N : Int} : ∀ (r i : Nat), decide (ixG a N r i ≥ 0) = (List.range r).any fun j => outN N (a.getD (i + j) Enc.dflt)
 | 0, i => rfl
 | r + 1, i => by
  rw [List.range_succ_eq_map, List.any_cons, List.any_map]
  simp only [Nat.add_zero]
  cases hq : outN N (a.getD i Enc.dflt) with
  | true => rw [ixG_yes hq]; simp
  | false =>
   rw [ixG_nx hq, Bool.false_or, ixG_no r (i + 1)]
   congr 1
   funext j
   show _ = outN N (a.getD (i + (j + 1)) Enc.dflt)
   rw [show i + 1 + j = i + (j + 1) by omega]
def oobA (a : List Int) (N : Int) : Bool := a.any fun v => outN N v
theorem ixA_any (a : List Int) (N : Int) : decide (ixA a N ≥ 0) = oobA a N := by
 unfold ixA oobA
 rw [ixG_no]
 have : ∀ l : List Int, ((List.range l.length).any fun j => outN N (l.getD (0 + j) Enc.dflt)) = l.any fun v => outN N v := by
  intro l
  rw [Bool.eq_iff_iff, List.any_eq_true, List.any_eq_true]
  constructor
  ·rintro ⟨j, hj, h⟩
   have hj := List.mem_range.1 hj
   rw [Nat.zero_add] at h
   exact ⟨l.getD j Enc.dflt, by simp [List.getD, hj], h⟩
  ·rintro ⟨v, hv, h⟩
   obtain ⟨j, hj, rfl⟩ := List.getElem_of_mem hv
   exact ⟨j, List.mem_range.2 hj, by simpa [List.getD, hj] using h⟩
 exact this a
theorem ixG_at {a : List Int} {N : Int} {r : Int} {k : Nat} (hk : k < a.length) (h : ixG a N (a.length - k) k = r) : (outN N (a.getD k Enc.dflt) = true → r = Int.ofNat k) ∧ (outN N (a.getD k Enc.dflt) = false → ixG a N (a.length - (k + 1)) (k + 1) = r) := by
 rw [show a.length - k = (a.length - (k + 1)) + 1 by omega] at h
 simp only [ixG] at h
 constructor
 ·intro hq; rw [hq, cond_true] at h; exact h.symm
 ·intro hq; rw [hq, cond_false] at h; exact h
theorem ix_loop {a : List Int} {c : Nat} {N : Int} {β : Bs} (hβ : β.X.length = 2) (hl : a.length ≤ 1000000) : LoopJ Try.prog β (exIx a c N) 0 (loopOf Try.prog 23 0) (FIx a c (0 : Nat)) (mkS (viI a N)) := by
 refine loop_rule (fun k : Nat => k ≤ a.length ∧ ixG a N (a.length - k) k = ixA a N) (fun k => FIx a c k) (fun _ => mkS (viI a N)) (fun k => a.length - k) (fun k hk K hK => ?_) 0 ⟨Nat.zero_le _, rfl⟩
 obtain ⟨hK1, hK2⟩ := hK
 obtain ⟨hk, hg⟩ := hk
 show J _ β _ _ _ (Nn β (fun k : Nat => k ≤ a.length ∧ ixG a N (a.length - k) k = ixA a N) (fun k => a.length - k) (fun k : Nat => FIx a c k) (fun _ => mkS (viI a N)) k K)
 refine roundJ_ok (E := 2) (lvs := fun _ => slIx) (un := fun _ => 0) (fuel := 100) (n := 20) (ex := fun _ _ => False) follows toldT_ok hβ (lv := lvIx) ?_
 rw [vc_ix_r]
 by_cases hkn : k < a.length
 ·have c1 : decide ((k : Int) < Int.ofNat a.length) = true := by simpa using hkn
  have c2 : decide ((0 : Int) ≤ (k : Int)) = true := by simp
  have e0 : Int.toNat (k : Int) = k := Int.toNat_natCast k
  have c3 : Nat.blt k a.length = true := by simpa using hkn
  have c5 : Nat.ble 0 k = true := by simp
  have hw : IntKind.wrap .i64 ((k : Int) + 1) = ((k + 1 : Nat) : Int) := w64 (by omega) (by omega)
  have hdef : a.getD k (0 : Int) = a.getD k Enc.dflt := rfl
  simp only [c1, c2, e0, Nat.zero_add, c3, c5, Bool.true_and, br_t, need_t, hw, hdef]
  obtain ⟨g1, g2⟩ := ixG_at hkn hg
  generalize a.getD k Enc.dflt = v at g1 g2 ⊢
  have hret : outN N v = true → onP (Nn β (fun k : Nat => k ≤ a.length ∧ ixG a N (a.length - k) k = ixA a N) (fun k => a.length - k) (fun k : Nat => FIx a c k) (fun _ => mkS (viI a N)) k K) .ret (shpIr a N (k : Int)) := fun h => by
   have hr := g1 h
   have hge : decide (ixA a N ≥ 0) = true := by rw [hr]; simp
   have := hK1 hge
   rw [hr] at this
   exact Nn.ret (Seen.refl _ _ _) this
  have hnext : outN N v = false → onP (Nn β (fun k : Nat => k ≤ a.length ∧ ixG a N (a.length - k) k = ixA a N) (fun k => a.length - k) (fun k : Nat => FIx a c k) (fun _ => mkS (viI a N)) k K) .normal (shpIx a c N ((k + 1 : Nat) : Int)) := fun h =>
   Nn.next (I := fun k : Nat => k ≤ a.length ∧ ixG a N (a.length - k) k = ixA a N) (m := fun k => a.length - k) (F := fun k : Nat => FIx a c k) (S := fun _ => mkS (viI a N)) (p := k) (k + 1) ⟨hkn, g2 h⟩ (by omega) (Seen.refl _ _ _)
  unfold outN at hret hnext
  refine br_of (fun q1 => hret (by rw [q1]; rfl)) (fun q1 => br_of (fun q2 => hret (by rw [q2, Bool.or_true])) (fun q2 => hnext (by rw [q1, q2]; rfl)))
 ·have c1 : decide ((k : Int) < Int.ofNat a.length) = false := by simpa using hkn
  have hkn' : k = a.length := by omega
  subst hkn'
  simp only [c1, br_f]
  refine Nn.exit (Seen.refl _ _ _) (hK2 ?_)
  rw [Nat.sub_self] at hg
  rw [← hg]; rfl
def ixU (N : Int) : List Up := [.same, .to (.cells [.int .i64 N] true 0)]
def spI (args : List Value) (objs : List (Option AObj)) : Option SpT := match args, objs with
 | [.slice (some ⟨0, 0, some 0⟩) n c, .func (.func g) ⟨[]⟩ ⟨[.pointer (some ⟨1, 0, none⟩)]⟩], [o0, some (.cells [.int .i64 N] true 0)] =>
  some (.one ⟨Nat.beq g 19 && rowB Int n c o0, viI (rowL Int n o0) N, .returned (.int .i64 (ixA (rowL Int n o0) N)), ixU N, []⟩)
 | _, _ => none
theorem ix_told : EffOk Try.prog 23 (pickS spI) := by
 intro args objs s hs hb
 unfold pickS spI at hs
 split at hs
 ·rename_i n c g o0 N
  simp only [Option.map_some, Option.some.injEq, SpT.pick] at hs
  subst hs
  have hb' := hb
  simp only [Bool.and_eq_true] at hb'
  obtain ⟨b1, b2⟩ := hb'
  have b1 := Nat.eq_of_beq_eq_true b1
  subst b1
  obtain ⟨l1, m1, c1, v1⟩ := rowB_ok b2
  refine ⟨⟨rfl, fun i o h => ?_⟩, ?_⟩
  ·match i, h with
   | 0, h => cases h; obtain ⟨q, rfl, hq⟩ := v1; exact ⟨q, rfl, (fun h => by cases h), hq⟩
   | 1, h => cases h; exact ⟨_, rfl, fun h => h, fun _ _ _ h => h⟩
   | _ + 2, h => simp [viI] at h
  refine ⟨toldT, 100, 20, fun _ => 0, fun _ => slIx, exIx (rowL Int n o0) c N, toldT_ok, fun β hβ => ?_⟩
  have hl := vc_ix (rowL Int n o0) c N β fun r l => ∃ l2, objsR l l2 ∧ effK ⟨Nat.beq 19 19 && rowB Int n c o0, viI (rowL Int n o0) N, .returned (.int .i64 (ixA (rowL Int n o0) N)), ixU N, []⟩ r (mkS l2)
  rw [l1] at hl
  refine hl.mpr ?_
  have eff : ∀ (v : Int) (lst : List (Option AObj)), v = ixA (rowL Int n o0) N → lst[1]? = some (some (.cells [.int .i64 N] true 0)) → ∃ l2, objsR lst l2 ∧ effK ⟨Nat.beq 19 19 && rowB Int n c o0, viI (rowL Int n o0) N, .returned (.int .i64 (ixA (rowL Int n o0) N)), ixU N, []⟩ (.returned (.int .i64 v)) (mkS l2) := by
   intro v lst hv h1
   subst hv
   refine ⟨lst, objsR.refl _, [], rfl, List.nodup_nil, by simp, rfl, fun i o h => ?_, fun j x o h => by simp at h⟩
   match i, h with
   | 0, h => cases h
   | 1, h => cases h; rw [mkS_get, h1]; rfl
   | i + 2, h => simp [ixU] at h
  refine ⟨?_, fun h => eff _ _ rfl rfl, fun h => eff _ _ ?_ rfl⟩
  ·exact ix_loop hβ (by rw [l1]; exact m1)
  ·unfold ixA at h ⊢
   generalize (rowL Int n o0).length = q at h ⊢
   have : ∀ (r i : Nat), decide (ixG (rowL Int n o0) N r i ≥ 0) = false → ixG (rowL Int n o0) N r i = -1 := by
    intro r
    induction r with
    | zero => intro i _; rfl
    | succ r ih =>
     intro i h
     cases hq : outN N ((rowL Int n o0).getD i Enc.dflt) with
     | true => rw [ixG_yes hq] at h; simp at h
     | false => rw [ixG_nx hq] at h ⊢; exact ih _ h
   exact (this _ _ h).symm
 ·cases hs
def toldI : Ev.Told := toldT.effT 23 spI
theorem toldI_ok : ToldS Try.prog toldI := Told.effT_ok follows toldT_ok ix_told
end Go.Proofs.Ytjibiphgbhlhkaa.Ev
end
section
set_option maxRecDepth 1000000
namespace Go.Proofs.Ytjibiphgbhlhkaa.Ev
open Go Go.Proofs
def viY (x : Ask) : List (Option AObj) := [some (rowO .look x.ev.a), some (rowO .look x.ev.v), some (rowO .look x.ev.m), some (rowO .look x.vs)]
theorem vc_my (x : Ask) (N : Int) (β : Bs) (K : AE → List (Option AObj) → Prop) : lawE Try.prog toldI 100 20 β (fun _ => 0) (cnOf 4 fun _ => []) (fun _ _ => False) 15 [.agg ⟨[.int .i64 x.ev.k, .int .i64 x.ev.s, .int .i64 x.ev.i, .bool x.ev.w, .int .i64 x.ev.e, .slice (some ⟨0, 0, some 0⟩) x.ev.a.length x.ev.ca, .slice (some ⟨1, 0, some 0⟩) x.ev.v.length x.ev.cv, .slice (some ⟨2, 0, some 0⟩) x.ev.m.length x.ev.cm, .slice (some ⟨3, 0, some 0⟩) x.vs.length x.cs, .int .i64 x.fr, .int .i64 x.to, .bool x.mu, .bool x.pl]⟩, .int .i64 N] (mkS (viY x)) (outK K) =
 (br (Ask.pl x) (br (IntKind.wrap .i64 (Int.ofNat (List.length (Ask.vs x)) - Int.ofNat (List.length (Evt.a (Ask.ev x)))) == (0 : Int)) (need (true && rowB Int (List.length (Evt.a (Ask.ev x))) (Evt.ca (Ask.ev x)) (some (.row .look 1 0 (List.length (Evt.a (Ask.ev x))) (encL (Evt.a (Ask.ev x)))))) (K (.returned (.bool !decide (ixA (rowL Int (List.length (Evt.a (Ask.ev x))) (some (.row .look 1 0 (List.length (Evt.a (Ask.ev x))) (encL (Evt.a (Ask.ev x)))))) N ≥ (0 : Int)))) [some (.row .look 1 0 (List.length (Evt.a (Ask.ev x))) (encL (Evt.a (Ask.ev x)))), some (.row .look 3 0 (List.length (Evt.v (Ask.ev x))) (encL (Evt.v (Ask.ev x)))), some (.row .look 3 0 (List.length (Evt.m (Ask.ev x))) (encL (Evt.m (Ask.ev x)))), some (.row .look 3 0 (List.length (Ask.vs x)) (encL (Ask.vs x))), some (.cells [.int .i64 (Evt.k (Ask.ev x)), .int .i64 (Evt.s (Ask.ev x)), .int .i64 (Evt.i (Ask.ev x)), .bool (Evt.w (Ask.ev x)), .int .i64 (Evt.e (Ask.ev x)), .slice (some ⟨0, 0, some 0⟩) (List.length (Evt.a (Ask.ev x))) (Evt.ca (Ask.ev x)), .slice (some ⟨1, 0, some 0⟩) (List.length (Evt.v (Ask.ev x))) (Evt.cv (Ask.ev x)), .slice (some ⟨2, 0, some 0⟩) (List.length (Evt.m (Ask.ev x))) (Evt.cm (Ask.ev x)), .slice (some ⟨3, 0, some 0⟩) (List.length (Ask.vs x)) (Ask.cs x), .int .i64 (Ask.fr x), .int .i64 (Ask.to x), .bool (Ask.mu x), .bool (Ask.pl x)] true 0), some (.cells [.int .i64 N] true 0), none])) (br (decide (IntKind.wrap .i64 (Int.ofNat (List.length (Ask.vs x)) - Int.ofNat (List.length (Evt.a (Ask.ev x)))) > (0 : Int))) (br (!Ask.mu x) (need (true && rowB Int (List.length (Evt.a (Ask.ev x))) (Evt.ca (Ask.ev x)) (some (.row .look 1 0 (List.length (Evt.a (Ask.ev x))) (encL (Evt.a (Ask.ev x)))))) (K (.returned (.bool !decide (ixA (rowL Int (List.length (Evt.a (Ask.ev x))) (some (.row .look 1 0 (List.length (Evt.a (Ask.ev x))) (encL (Evt.a (Ask.ev x)))))) N ≥ (0 : Int)))) [some (.row .look 1 0 (List.length (Evt.a (Ask.ev x))) (encL (Evt.a (Ask.ev x)))), some (.row .look 3 0 (List.length (Evt.v (Ask.ev x))) (encL (Evt.v (Ask.ev x)))), some (.row .look 3 0 (List.length (Evt.m (Ask.ev x))) (encL (Evt.m (Ask.ev x)))), some (.row .look 3 0 (List.length (Ask.vs x)) (encL (Ask.vs x))), some (.cells [.int .i64 (Evt.k (Ask.ev x)), .int .i64 (Evt.s (Ask.ev x)), .int .i64 (Evt.i (Ask.ev x)), .bool (Evt.w (Ask.ev x)), .int .i64 (Evt.e (Ask.ev x)), .slice (some ⟨0, 0, some 0⟩) (List.length (Evt.a (Ask.ev x))) (Evt.ca (Ask.ev x)), .slice (some ⟨1, 0, some 0⟩) (List.length (Evt.v (Ask.ev x))) (Evt.cv (Ask.ev x)), .slice (some ⟨2, 0, some 0⟩) (List.length (Evt.m (Ask.ev x))) (Evt.cm (Ask.ev x)), .slice (some ⟨3, 0, some 0⟩) (List.length (Ask.vs x)) (Ask.cs x), .int .i64 (Ask.fr x), .int .i64 (Ask.to x), .bool (Ask.mu x), .bool (Ask.pl x)] true 0), some (.cells [.int .i64 N] true 0), none])) (K (.returned (.bool false)) [some (.row .look 1 0 (List.length (Evt.a (Ask.ev x))) (encL (Evt.a (Ask.ev x)))), some (.row .look 3 0 (List.length (Evt.v (Ask.ev x))) (encL (Evt.v (Ask.ev x)))), some (.row .look 3 0 (List.length (Evt.m (Ask.ev x))) (encL (Evt.m (Ask.ev x)))), some (.row .look 3 0 (List.length (Ask.vs x)) (encL (Ask.vs x))), some (.cells [.int .i64 (Evt.k (Ask.ev x)), .int .i64 (Evt.s (Ask.ev x)), .int .i64 (Evt.i (Ask.ev x)), .bool (Evt.w (Ask.ev x)), .int .i64 (Evt.e (Ask.ev x)), .slice (some ⟨0, 0, some 0⟩) (List.length (Evt.a (Ask.ev x))) (Evt.ca (Ask.ev x)), .slice (some ⟨1, 0, some 0⟩) (List.length (Evt.v (Ask.ev x))) (Evt.cv (Ask.ev x)), .slice (some ⟨2, 0, some 0⟩) (List.length (Evt.m (Ask.ev x))) (Evt.cm (Ask.ev x)), .slice (some ⟨3, 0, some 0⟩) (List.length (Ask.vs x)) (Ask.cs x), .int .i64 (Ask.fr x), .int .i64 (Ask.to x), .bool (Ask.mu x), .bool (Ask.pl x)] true 0), some (.cells [.int .i64 N] true 0)])) (K (.returned (.bool false)) [some (.row .look 1 0 (List.length (Evt.a (Ask.ev x))) (encL (Evt.a (Ask.ev x)))), some (.row .look 3 0 (List.length (Evt.v (Ask.ev x))) (encL (Evt.v (Ask.ev x)))), some (.row .look 3 0 (List.length (Evt.m (Ask.ev x))) (encL
 (Evt.m (Ask.ev x)))), some (.row .look 3 0 (List.length (Ask.vs x)) (encL (Ask.vs x))), some (.cells [.int .i64 (Evt.k (Ask.ev x)), .int .i64 (Evt.s (Ask.ev x)), .int .i64 (Evt.i (Ask.ev x)), .bool (Evt.w (Ask.ev x)), .int .i64 (Evt.e (Ask.ev x)), .slice (some ⟨0, 0, some 0⟩) (List.length (Evt.a (Ask.ev x))) (Evt.ca (Ask.ev x)), .slice (some ⟨1, 0, some 0⟩) (List.length (Evt.v (Ask.ev x))) (Evt.cv (Ask.ev x)), .slice (some ⟨2, 0, some 0⟩) (List.length (Evt.m (Ask.ev x))) (Evt.cm (Ask.ev x)), .slice (some ⟨3, 0, some 0⟩) (List.length (Ask.vs x)) (Ask.cs x), .int .i64 (Ask.fr x), .int .i64 (Ask.to x), .bool (Ask.mu x), .bool (Ask.pl x)] true 0), some (.cells [.int .i64 N] true 0)]))) (K (.returned (.bool false)) [some (.row .look 1 0 (List.length (Evt.a (Ask.ev x))) (encL (Evt.a (Ask.ev x)))), some (.row .look 3 0 (List.length (Evt.v (Ask.ev x))) (encL (Evt.v (Ask.ev x)))), some (.row .look 3 0 (List.length (Evt.m (Ask.ev x))) (encL (Evt.m (Ask.ev x)))), some (.row .look 3 0 (List.length (Ask.vs x)) (encL (Ask.vs x))), some (.cells [.int .i64 (Evt.k (Ask.ev x)), .int .i64 (Evt.s (Ask.ev x)), .int .i64 (Evt.i (Ask.ev x)), .bool (Evt.w (Ask.ev x)), .int .i64 (Evt.e (Ask.ev x)), .slice (some ⟨0, 0, some 0⟩) (List.length (Evt.a (Ask.ev x))) (Evt.ca (Ask.ev x)), .slice (some ⟨1, 0, some 0⟩) (List.length (Evt.v (Ask.ev x))) (Evt.cv (Ask.ev x)), .slice (some ⟨2, 0, some 0⟩) (List.length (Evt.m (Ask.ev x))) (Evt.cm (Ask.ev x)), .slice (some ⟨3, 0, some 0⟩) (List.length (Ask.vs x)) (Ask.cs x), .int .i64 (Ask.fr x), .int .i64 (Ask.to x), .bool (Ask.mu x), .bool (Ask.pl x)] true 0), some (.cells [.int .i64 N] true 0)])) := by kernel_rfl
end Go.Proofs.Ytjibiphgbhlhkaa.Ev
end
section
set_option maxRecDepth 100000
namespace Go.Proofs.Ytjibiphgbhlhkaa.Ev
open Go Go.Proofs Go.RowKit
def nvI (x : Ask) : Int := IntKind.wrap .i64 (Int.ofNat x.vs.length - Int.ofNat x.ev.a.length)
def mayB (x : Ask) (N : Int) : Bool := cond x.pl (cond (nvI x == 0) (!oobA x.ev.a N) (cond (decide (nvI x > 0)) (cond x.mu false (!oobA x.ev.a N)) false)) false
theorem ans_b (b : Bool) (st : ASt) : ansE (.ret (.cell (.sc (.bool b)))) (.returned (.bool b)) st := ⟨[], ⟨rfl, rfl, rfl⟩, List.nodup_nil⟩
theorem may_law {x : Ask} {N : Int} {β : Bs} (hca : x.ev.ca ≤ 1) (hl : x.ev.a.length ≤ 1000000) : lawE Try.prog toldI 100 20 β (fun _ => 0) (cnOf 4 fun _ => []) (fun _ _ => False) 15 [.agg ⟨[.int .i64 x.ev.k, .int .i64 x.ev.s, .int .i64 x.ev.i, .bool x.ev.w, .int .i64 x.ev.e, .slice (some ⟨0, 0, some 0⟩) x.ev.a.length x.ev.ca, .slice (some ⟨1, 0, some 0⟩) x.ev.v.length x.ev.cv, .slice (some ⟨2, 0, some 0⟩) x.ev.m.length x.ev.cm, .slice (some ⟨3, 0, some 0⟩) x.vs.length x.cs, .int .i64 x.fr, .int .i64 x.to, .bool x.mu, .bool x.pl]⟩, .int .i64 N] (mkS (viY x)) (outR (ansE (.ret (.cell (.sc (.bool (mayB x N))))))) := by
 have hout : ∀ a, outR (ansE a) = outK fun r l => ∃ l2, objsR l l2 ∧ ansE a r (mkS l2) := fun s => rfl
 rw [hout, vc_my]
 have rb : rowB Int x.ev.a.length x.ev.ca (some (.row .look 1 0 x.ev.a.length (encL x.ev.a))) = true := rowB_of (α := Int) .look rfl rfl (allI _) hl hca
 have hn : IntKind.wrap .i64 (Int.ofNat x.vs.length - Int.ofNat x.ev.a.length) = nvI x := rfl
 have done : ∀ (b : Bool) (l : List (Option AObj)), b = mayB x N → ∃ l2, objsR l l2 ∧ ansE (.ret (.cell (.sc (.bool (mayB x N))))) (.returned (.bool b)) (mkS l2) := fun b l h => by rw [← h]; exact ⟨l, objsR.refl _, ans_b _ _⟩
 simp only [rb, Bool.and_self, need_t, rowL_enc, hn, ixA_any]
 have hM : mayB x N = cond x.pl (cond (nvI x == 0) (!oobA x.ev.a N) (cond (decide (nvI x > 0)) (cond x.mu false (!oobA x.ev.a N)) false)) false := rfl
 refine br_of (fun h1 => br_of (fun h2 => done _ _ ?_) (fun h2 => br_of (fun h3 => br_of (fun h4 => done _ _ ?_) (fun h4 => done _ _ ?_)) (fun h3 => done _ _ ?_))) (fun h1 => done _ _ ?_)
 ·rw [hM, h1, h2]; rfl
 ·rw [Bool.not_eq_true'] at h4; rw [hM, h1, h2, h3, h4]; rfl
 ·rw [Bool.not_eq_false'] at h4; rw [hM, h1, h2, h3, h4]; rfl
 ·rw [hM, h1, h2, h3]; rfl
 ·rw [hM, h1]; rfl
theorem PW.turn {α β : Type} {R : α → β → Prop} {l l' : List α} {m : List β} (h : PW R l m) (hl : PW (fun a a' => ∀ y, R a y → R a' y) l l') : PW R l' m := by
 refine ⟨by rw [← h.1, hl.1], fun i a b x y => ?_⟩
 have : i < l.length := by
  have := (List.getElem?_eq_some_iff.1 x).1
  rw [hl.1]; exact this
 exact hl.2 i (l[i]) a (List.getElem?_eq_getElem this) x b (h.2 i _ b (List.getElem?_eq_getElem this) y)
def myX (k s i : Int) (w : Bool) (e : Int) (ta tv tm ts : Td) (fr to : Int) (mu pl : Bool) : Ask := ⟨⟨k, s, i, w, e, listT Int ta, nilT ta, listT Vl tv, nilT tv, listT Vl tm, nilT tm⟩, listT Vl ts, nilT ts, fr, to, mu, pl⟩
def okMy (ts : List Ta) : Bool := match ts with
 | [.agg [.sc (.int .i64 k), .sc (.int .i64 s), .sc (.int .i64 i), .sc (.bool w), .sc (.int .i64 e), ta, tv, tm, tq, .sc (.int .i64 fr), .sc (.int .i64 to), .sc (.bool mu), .sc (.bool pl)], .cell (.sc (.int .i64 N))] => okT Int ta && okT Vl tv && okT Vl tm && okT Vl tq
 | _ => false
def ansMy (ts : List Ta) : Ans := match ts with
 | [.agg [.sc (.int .i64 k), .sc (.int .i64 s), .sc (.int .i64 i), .sc (.bool w), .sc (.int .i64 e), ta, tv, tm, tq, .sc (.int .i64 fr), .sc (.int .i64 to), .sc (.bool mu), .sc (.bool pl)], .cell (.sc (.int .i64 N))] => .ret (.cell (.sc (.bool (mayB (myX k s i w e ta tv tm tq fr to mu pl) N))))
 | _ => .pan .nilIface
theorem may_told : ToldW Try.prog 15 okMy ansMy := by
 intro ts hok w args' F hF ha
 unfold okMy at hok
 split at hok
 ·rename_i k s i w' e ta tv tm tq fr to mu pl N
  simp only [Bool.and_eq_true] at hok
  obtain ⟨⟨⟨o1, o2⟩, o3⟩, o4⟩ := hok
  obtain ⟨l1, c1⟩ := okT_len o1
  obtain ⟨y, m, e1, ⟨arr, rfl, hy⟩, hm'⟩ := ha.uncons
  obtain ⟨y2, m2, e2, h2, hm2⟩ := hm'.uncons
  have := hm2.nil_inv
  subst this
  have ht : PW (fun a a' => ∀ y, TRo w F a y → TRo w F a' y) [.sc (.int .i64 k), .sc (.int .i64 s), .sc (.int .i64 i), .sc (.bool w'), .sc (.int .i64 e), ta, tv, tm, tq, .sc (.int .i64 fr), .sc (.int .i64 to), .sc (.bool mu), .sc (.bool pl)]
    [.sc (.int .i64 k), .sc (.int .i64 s), .sc (.int .i64 i), .sc (.bool w'), .sc (.int .i64 e), tdL (listT Int ta) (nilT ta), tdL (listT Vl tv) (nilT tv), tdL (listT Vl tm) (nilT tm), tdL (listT Vl tq) (nilT tq), .sc (.int .i64 fr), .sc (.int .i64 to), .sc (.bool mu), .sc (.bool pl)] :=
   PW.cons (fun _ h => h) (PW.cons (fun _ h => h) (PW.cons (fun _ h => h) (PW.cons (fun _ h => h) (PW.cons (fun _ h => h) (PW.cons (fun _ h => okT_TRo o1 h) (PW.cons (fun _ h => okT_TRo o2 h) (PW.cons (fun _ h => okT_TRo o3 h) (PW.cons (fun _ h => okT_TRo o4 h) (PW.cons (fun _ h => h) (PW.cons (fun _ h => h) (PW.cons (fun _ h => h) (PW.cons (fun _ h => h) (PW.nil _)))))))))))))
  have ha' : PW (TaR w F) [.agg [.sc (.int .i64 k), .sc (.int .i64 s), .sc (.int .i64 i), .sc (.bool w'), .sc (.int .i64 e), tdL (listT Int ta) (nilT ta), tdL (listT Vl tv) (nilT tv), tdL (listT Vl tm) (nilT tm), tdL (listT Vl tq) (nilT tq), .sc (.int .i64 fr), .sc (.int .i64 to), .sc (.bool mu), .sc (.bool pl)], .cell (.sc (.int .i64 N))] args'.toList := by
   rw [e1, e2]; exact PW.cons ⟨arr, rfl, PW.turn hy ht⟩ (PW.cons h2 (PW.nil _))
  exact toldW_out (a := .ret (.cell (.sc (.bool (mayB (myX k s i w' e ta tv tm tq fr to mu pl) N))))) follows ⟨toldI, 100, 20, fun _ => 0, fun _ => [], fun _ _ => False, toldI_ok, fun β hβ => may_law (x := myX k s i w' e ta tv tm tq fr to mu pl) (N := N) c1 l1⟩ w args' F hF ha'
 ·cases hok
end Go.Proofs.Ytjibiphgbhlhkaa.Ev
end
section
set_option maxRecDepth 1000000
namespace Go.Proofs.Ytjibiphgbhlhkaa.Ev
open Go Go.Proofs
def slRd : List Nat := [0, 2, 3, 4, 15, 16, 17]
def lvRd : AX → List Nat := fun x => slRd
def kkR : Kk := .is [.i64, .i64]
def FRd (l : List Evt) (c : Nat) (n : Nat) (N i : Int) : AFr := mkF 127 [(0, .slice (some ⟨0, 0, some 0⟩) l.length c), (2, .slice (some ⟨1, 0, some 0⟩) n 1), (3, .int .i64 N), (4, .map (some 2)), (15, .slice (some ⟨0, 0, some 0⟩) l.length c), (16, .int .i64 (Int.ofNat l.length)), (17, .int .i64 i)]
def SRd (l : List Evt) (A : List Ask) (es : Es) : ASt := mkS [some (rowO .look l), some (rowO .mine A), some (.omap kkR (.i .i64) es)]
def keyE (x : Evt) : Value := .agg ⟨[.int .i64 x.s, .int .i64 x.i]⟩
def hasE (x : Evt) (es : Es) : Bool := hasK (keyE x) es
def intE (x : Evt) (es : Es) : Int := intV (getK (keyE x) (.int .i64 0) es)
def askE (x : Evt) (i n : Int) : Ask := ⟨x, x.v, x.cv, i, n, false, x.w⟩
def tldE (a : Ask) (x : Evt) (i : Int) : Ask := ⟨a.ev, cond a.ev.w a.vs x.v, cond a.ev.w a.cs x.cv, a.fr, i, x.e == 0, x.e == 0⟩
def rdS (l : List Evt) (p : List Ask × Es × Int) (i : Nat) : List Ask × Es × Int :=
 cond ((l.getD i Enc.dflt).k == 3) (p.1, p.2.1, Int.ofNat (l.getD i Enc.dflt).m.length)
  (cond ((l.getD i Enc.dflt).k == 1) (p.1 ++ [askE (l.getD i Enc.dflt) i l.length], putK (keyE (l.getD i Enc.dflt)) (.int .i64 (Int.ofNat p.1.length)) p.2.1, p.2.2)
   (p.1.set (intE (l.getD i Enc.dflt) p.2.1).toNat (tldE (p.1.getD (intE (l.getD i Enc.dflt) p.2.1).toNat Enc.dflt) (l.getD i Enc.dflt) i), p.2.1, p.2.2))
def rdK (l : List Evt) : Nat → List Ask × Es × Int
 | 0 => ([], [], -1)
 | k + 1 => rdS l (rdK l k) k
def rdG (l : List Evt) (p : List Ask × Es × Int) (i : Nat) : Bool :=
 cond ((l.getD i Enc.dflt).k == 3) (!decide (p.2.2 ≥ 0) || !(p.2.2 != Int.ofNat (l.getD i Enc.dflt).m.length))
  (cond ((l.getD i Enc.dflt).k == 1) (!hasE (l.getD i Enc.dflt) p.2.1 && Nat.blt p.1.length 8)
   ((l.getD i Enc.dflt).k == 2 && (hasE (l.getD i Enc.dflt) p.2.1 && (decide (0 ≤ intE (l.getD i Enc.dflt) p.2.1) && (Nat.blt (intE (l.getD i Enc.dflt) p.2.1).toNat p.1.length && !decide ((p.1.getD (intE (l.getD i Enc.dflt) p.2.1).toNat Enc.dflt).to < Int.ofNat l.length))))))
def exRd (l : List Evt) (c : Nat) : Nat → Kt → Prop := fun b K => K (.exit b) (FRd l c (rdK l l.length).1.length (rdK l l.length).2.2 l.length) (SRd l (rdK l l.length).1 (rdK l l.length).2.1)
def shpRd (l : List Evt) (c : Nat) (A : List Ask) (es : Es) (N i' : Int) : AFr × ASt := (FRd l c A.length N i', SRd l A es)
def shpRs (l : List Evt) (c : Nat) (n : Nat) (el : Nat → Nat → Td) (es : Es) (N i' : Int) : AFr × ASt := (FRd l c n N i', mkS [some (rowO .look l), some (.row .mine 13 0 n el), some (.omap kkR (.i .i64) es)])
theorem vc_rd (l : List Evt) (c : Nat) (β : Bs) (K : AE → List (Option AObj) → Prop) : lawE Try.prog toldT 100 20 β (fun _ => 0) (cnOf 1 fun _ => slRd) (exRd l c) 14 [.slice (some ⟨0, 0, some 0⟩) l.length c] (mkS [some (rowO .look l)]) (outK K) =
 (br (decide (Int.ofNat l.length > (40 : Int))) (K (AE.panicked (Value.iface 62 (Value.agg (Array.mk [])))) [some (.row .look 8 0 l.length (encL l))]) (LoopJ Try.prog β (exRd l c) 0 (loopOf Try.prog 14 0) (mkF 127 [(0, .slice (some ⟨0, 0, some 0⟩) l.length c), (2, .slice none 0 0), (3, .int .i64 (-1 : Int)), (4, .map (some 1)), (15, .slice (some ⟨0, 0, some 0⟩) l.length c), (16, .int .i64 (Int.ofNat l.length)), (17, .int .i64 (0 : Int))]) (mkS [some (.row .look 8 0 l.length (encL l)), some (AObj.map [] 0)]) ∧ K (.returned (Value.tuple (Array.mk [.slice (some ⟨1, 0, some 0⟩) (List.length (Prod.fst (rdK l l.length))) 1, .int .i64 (if (0 : Int) > Prod.snd (Prod.snd (rdK l l.length)) then (0 : Int) else Prod.snd (Prod.snd (rdK l l.length)))]))) [some (.row .look 8 0 l.length (encL l)), some (.row .mine 13 0 (List.length (Prod.fst (rdK l l.length))) (encL (Prod.fst (rdK l l.length)))), some (AObj.omap kkR (Vk.i IntKind.i64) (Prod.fst (Prod.snd (rdK l l.length))))])) := by kernel_rfl
theorem vc_rd_r (l : List Evt) (c : Nat) (A : List Ask) (es : Es) (N i : Int) (β : Bs) (Nx : Kt) (ex : Nat → Kt → Prop) : roundJ Try.prog toldT 100 20 β (fun _ => 0) (cnOf 1 fun _ => slRd) ex 14 0 1 lvRd (FRd l c A.length N i) (SRd l A es) Nx =
 (br (decide (i < Int.ofNat l.length)) (need (decide ((0 : Int) ≤ i)) (need (Nat.blt (Int.toNat i) l.length) (need (Nat.ble 0 (0 + Int.toNat i) && Nat.blt (0 + Int.toNat i) l.length) (br (Evt.k (List.getD l (0 + Int.toNat i) Enc.dflt) == (3 : Int)) (br (decide (N ≥ (0 : Int))) (br (N != Int.ofNat (List.length (Evt.m (List.getD l (0 + Int.toNat i) Enc.dflt)))) False (Nx .normal (mkF 127 [(0, .slice (some ⟨0, 0, some 0⟩) l.length c), (2, .slice (some ⟨1, 0, some 0⟩) A.length 1), (3, .int .i64 (Int.ofNat (List.length (Evt.m (List.getD l (0 + Int.toNat i) Enc.dflt))))), (4, .map (some 2)), (15, .slice (some ⟨0, 0, some 0⟩) l.length c), (16, .int .i64 (Int.ofNat l.length)), (17, .int .i64 (IntKind.wrap .i64 (i + (1 : Int))))]) (mkS [some (.row .look 8 0 l.length (encL l)), some (.row .mine 13 0 A.length (encL A)), some (AObj.omap kkR (Vk.i IntKind.i64) es)]))) (Nx .normal (mkF 127 [(0, .slice (some ⟨0, 0, some 0⟩) l.length c), (2, .slice (some ⟨1, 0, some 0⟩) A.length 1), (3, .int .i64 (Int.ofNat (List.length (Evt.m (List.getD l (0 + Int.toNat i) Enc.dflt))))), (4, .map (some 2)), (15, .slice (some ⟨0, 0, some 0⟩) l.length c), (16, .int .i64 (Int.ofNat l.length)), (17, .int .i64 (IntKind.wrap .i64 (i + (1 : Int))))]) (mkS [some (.row .look 8 0 l.length (encL l)), some (.row .mine 13 0 A.length (encL A)), some (AObj.omap kkR (Vk.i IntKind.i64) es)]))) (br (Evt.k (List.getD l (0 + Int.toNat i) Enc.dflt) == (1 : Int)) (br (hasK (Value.agg (Array.mk [.int .i64 (Evt.s (List.getD l (0 + Int.toNat i) Enc.dflt)), .int .i64 (Evt.i (List.getD l (0 + Int.toNat i) Enc.dflt))])) es) False (br (decide (Int.ofNat A.length ≥ (8 : Int))) False (need (true && Nat.ble (0 + List.length (Evt.a (List.getD l (0 + Int.toNat i) Enc.dflt))) (List.length (Evt.a (List.getD l (0 + Int.toNat i) Enc.dflt)))) (need (true && Nat.ble (0 + List.length (Evt.v (List.getD l (0 + Int.toNat i) Enc.dflt))) (List.length (Evt.v (List.getD l (0 + Int.toNat i) Enc.dflt)))) (need (true && Nat.ble (0 + List.length (Evt.m (List.getD l (0 + Int.toNat i) Enc.dflt))) (List.length (Evt.m (List.getD l (0 + Int.toNat i) Enc.dflt)))) (need (true && Nat.ble (0 + List.length (Evt.v (List.getD l (0 + Int.toNat i) Enc.dflt))) (List.length (Evt.v (List.getD l (0 + Int.toNat i) Enc.dflt)))) (need (Nat.ble (List.length A + 1) 1000000) (need (true && Nat.ble (0 + List.length A) A.length) (Nx .normal (mkF 127 [(0, .slice (some ⟨0, 0, some 0⟩) l.length c), (2, .slice (some ⟨1, 0, some 0⟩) (List.length A + 1) 1), (3, .int .i64 N), (4, .map (some 2)), (15, .slice (some ⟨0, 0, some 0⟩) l.length c), (16, .int .i64 (Int.ofNat l.length)), (17, .int .i64 (IntKind.wrap .i64 (i + (1 : Int))))]) (mkS [some (.row .look 8 0 l.length (encL l)), some (.row .mine 13 0 (List.length A + 1) fun j k => mrgT (Nat.blt j A.length) (encL A (0 + j) k) (selT 13 1 [.sc (.int .i64 (Evt.k (List.getD l (0 + Int.toNat i) Enc.dflt))), .sc (.int .i64 (Evt.s (List.getD l (0 + Int.toNat i) Enc.dflt))), .sc (.int .i64 (Evt.i (List.getD l (0 + Int.toNat i) Enc.dflt))), .sc (.bool (Evt.w (List.getD l (0 + Int.toNat i) Enc.dflt))), .sc (.int .i64 (Evt.e (List.getD l (0 + Int.toNat i) Enc.dflt))), .fr 1 (List.length (Evt.a (List.getD l (0 + Int.toNat i) Enc.dflt))) (Evt.ca (List.getD l (0 + Int.toNat i) Enc.dflt)) fun i_1 => encL (Evt.a (List.getD l (0 + Int.toNat i) Enc.dflt)) (0 + i_1), .fr 3 (List.length (Evt.v (List.getD l (0 + Int.toNat i) Enc.dflt))) (Evt.cv (List.getD l (0 + Int.toNat i) Enc.dflt)) fun i_1 => encL (Evt.v (List.getD l (0 + Int.toNat i) Enc.dflt)) (0 + i_1), .fr 3 (List.length (Evt.m (List.getD l (0 + Int.toNat i) Enc.dflt))) (Evt.cm (List.getD l (0 + Int.toNat i) Enc.dflt)) fun i_1 => encL (Evt.m (List.getD l (0 + Int.toNat i) Enc.dflt)) (0 + i_1), .fr 3 (List.length (Evt.v (List.getD l (0 + Int.toNat i) Enc.dflt))) (Evt.cv (List.getD l (0 + Int.toNat i) Enc.dflt)) fun i_1 => encL (Evt.v (List.getD l (0 + Int.toNat i) Enc.dflt)) (0 + i_1), .sc (.int .i64 i), .sc (.int .i64 (Int.ofNat l.length)), .sc (.bool
 false), .sc (.bool (Evt.w (List.getD l (0 + Int.toNat i) Enc.dflt)))] (j - List.length A) k)), some (AObj.omap kkR (Vk.i IntKind.i64) (putK (Value.agg (Array.mk [.int .i64 (Evt.s (List.getD l (0 + Int.toNat i) Enc.dflt)), .int .i64 (Evt.i (List.getD l (0 + Int.toNat i) Enc.dflt))])) (.int .i64 (Int.ofNat A.length)) es))])))))))))) (need (Evt.k (List.getD l (0 + Int.toNat i) Enc.dflt) == (2 : Int)) (br (!hasK (Value.agg (Array.mk [.int .i64 (Evt.s (List.getD l (0 + Int.toNat i) Enc.dflt)), .int .i64 (Evt.i (List.getD l (0 + Int.toNat i) Enc.dflt))])) es) False (need (decide ((0 : Int) ≤ intV (getK (Value.agg (Array.mk [.int .i64 (Evt.s (List.getD l (0 + Int.toNat i) Enc.dflt)), .int .i64 (Evt.i (List.getD l (0 + Int.toNat i) Enc.dflt))])) (.int .i64 (0 : Int)) es))) (need (Nat.blt (Int.toNat (intV (getK (Value.agg (Array.mk [.int .i64 (Evt.s (List.getD l (0 + Int.toNat i) Enc.dflt)), .int .i64 (Evt.i (List.getD l (0 + Int.toNat i) Enc.dflt))])) (.int .i64 (0 : Int)) es))) A.length) (need (Nat.ble 0 (0 + Int.toNat (intV (getK (Value.agg (Array.mk [.int .i64 (Evt.s (List.getD l (0 + Int.toNat i) Enc.dflt)), .int .i64 (Evt.i (List.getD l (0 + Int.toNat i) Enc.dflt))])) (.int .i64 (0 : Int)) es))) && Nat.blt (0 + Int.toNat (intV (getK (Value.agg (Array.mk [.int .i64 (Evt.s (List.getD l (0 + Int.toNat i) Enc.dflt)), .int .i64 (Evt.i (List.getD l (0 + Int.toNat i) Enc.dflt))])) (.int .i64 (0 : Int)) es))) A.length) (br (decide (Ask.to (List.getD A (0 + Int.toNat (intV (getK (Value.agg (Array.mk [.int .i64 (Evt.s (List.getD l (0 + Int.toNat i) Enc.dflt)), .int .i64 (Evt.i (List.getD l (0 + Int.toNat i) Enc.dflt))])) (.int .i64 (0 : Int)) es))) Enc.dflt) < Int.ofNat l.length)) False (need (decide ((0 : Int) ≤ intV (getK (Value.agg (Array.mk [.int .i64 (Evt.s (List.getD l (0 + Int.toNat i) Enc.dflt)), .int .i64 (Evt.i (List.getD l (0 + Int.toNat i) Enc.dflt))])) (.int .i64 (0 : Int)) es))) (need (Nat.blt (Int.toNat (intV (getK (Value.agg (Array.mk [.int .i64 (Evt.s (List.getD l (0 + Int.toNat i) Enc.dflt)), .int .i64 (Evt.i (List.getD l (0 + Int.toNat i) Enc.dflt))])) (.int .i64 (0 : Int)) es))) A.length) (need (Nat.blt (0 + Int.toNat (intV (getK (Value.agg (Array.mk [.int .i64 (Evt.s (List.getD l (0 + Int.toNat i) Enc.dflt)), .int .i64 (Evt.i (List.getD l (0 + Int.toNat i) Enc.dflt))])) (.int .i64 (0 : Int)) es))) A.length) (need (decide ((0 : Int) ≤ intV (getK (Value.agg (Array.mk [.int .i64 (Evt.s (List.getD l (0 + Int.toNat i) Enc.dflt)), .int .i64 (Evt.i (List.getD l (0 + Int.toNat i) Enc.dflt))])) (.int .i64 (0 : Int)) es))) (need (Nat.blt (Int.toNat (intV (getK (Value.agg (Array.mk [.int .i64 (Evt.s (List.getD l (0 + Int.toNat i) Enc.dflt)), .int .i64 (Evt.i (List.getD l (0 + Int.toNat i) Enc.dflt))])) (.int .i64 (0 : Int)) es))) A.length) (need (Nat.blt (0 + Int.toNat (intV (getK (Value.agg (Array.mk [.int .i64 (Evt.s (List.getD l (0 + Int.toNat i) Enc.dflt)), .int .i64 (Evt.i (List.getD l (0 + Int.toNat i) Enc.dflt))])) (.int .i64 (0 : Int)) es))) A.length) (need (decide ((0 : Int) ≤ intV (getK (Value.agg (Array.mk [.int .i64 (Evt.s (List.getD l (0 + Int.toNat i) Enc.dflt)), .int .i64 (Evt.i (List.getD l (0 + Int.toNat i) Enc.dflt))])) (.int .i64 (0 : Int)) es))) (need (Nat.blt (Int.toNat (intV (getK (Value.agg (Array.mk [.int .i64 (Evt.s (List.getD l (0 + Int.toNat i) Enc.dflt)), .int .i64 (Evt.i (List.getD l (0 + Int.toNat i) Enc.dflt))])) (.int .i64 (0 : Int)) es))) A.length) (need (Nat.blt (0 + Int.toNat (intV (getK (Value.agg (Array.mk [.int .i64 (Evt.s (List.getD l (0 + Int.toNat i) Enc.dflt)), .int .i64 (Evt.i (List.getD l (0 + Int.toNat i) Enc.dflt))])) (.int .i64 (0 : Int)) es))) A.length) (need (decide ((0 : Int) ≤ intV (getK (Value.agg (Array.mk [.int .i64 (Evt.s (List.getD l (0 + Int.toNat i) Enc.dflt)), .int .i64 (Evt.i (List.getD l (0 + Int.toNat i) Enc.dflt))])) (.int .i64 (0 : Int)) es))) (need (Nat.blt (Int.toNat (intV (getK (Value.agg (Array.mk [.int .i64 (Evt.s (List.getD l (0 + Int.toNat i) Enc.dflt)), .int
 .i64 (Evt.i (List.getD l (0 + Int.toNat i) Enc.dflt))])) (.int .i64 (0 : Int)) es))) A.length) (need (Nat.ble 0 (0 + Int.toNat (intV (getK (Value.agg (Array.mk [.int .i64 (Evt.s (List.getD l (0 + Int.toNat i) Enc.dflt)), .int .i64 (Evt.i (List.getD l (0 + Int.toNat i) Enc.dflt))])) (.int .i64 (0 : Int)) es))) && Nat.blt (0 + Int.toNat (intV (getK (Value.agg (Array.mk [.int .i64 (Evt.s (List.getD l (0 + Int.toNat i) Enc.dflt)), .int .i64 (Evt.i (List.getD l (0 + Int.toNat i) Enc.dflt))])) (.int .i64 (0 : Int)) es))) A.length) (br (!Evt.w (Ask.ev (List.getD A (0 + Int.toNat (intV (getK (Value.agg (Array.mk [.int .i64 (Evt.s (List.getD l (0 + Int.toNat i) Enc.dflt)), .int .i64 (Evt.i (List.getD l (0 + Int.toNat i) Enc.dflt))])) (.int .i64 (0 : Int)) es))) Enc.dflt))) (need (decide ((0 : Int) ≤ intV (getK (Value.agg (Array.mk [.int .i64 (Evt.s (List.getD l (0 + Int.toNat i) Enc.dflt)), .int .i64 (Evt.i (List.getD l (0 + Int.toNat i) Enc.dflt))])) (.int .i64 (0 : Int)) es))) (need (Nat.blt (Int.toNat (intV (getK (Value.agg (Array.mk [.int .i64 (Evt.s (List.getD l (0 + Int.toNat i) Enc.dflt)), .int .i64 (Evt.i (List.getD l (0 + Int.toNat i) Enc.dflt))])) (.int .i64 (0 : Int)) es))) A.length) (need (true && Nat.ble (0 + List.length (Evt.v (List.getD l (0 + Int.toNat i) Enc.dflt))) (List.length (Evt.v (List.getD l (0 + Int.toNat i) Enc.dflt)))) (need (Nat.blt (0 + Int.toNat (intV (getK (Value.agg (Array.mk [.int .i64 (Evt.s (List.getD l (0 + Int.toNat i) Enc.dflt)), .int .i64 (Evt.i (List.getD l (0 + Int.toNat i) Enc.dflt))])) (.int .i64 (0 : Int)) es))) A.length) (onP Nx .normal (shpRs l c A.length (putT (0 + Int.toNat (intV (getK (Value.agg (Array.mk [.int .i64 (Evt.s (List.getD l (0 + Int.toNat i) Enc.dflt)), .int .i64 (Evt.i (List.getD l (0 + Int.toNat i) Enc.dflt))])) (.int .i64 (0 : Int)) es))) 8 [.fr 3 (List.length (Evt.v (List.getD l (0 + Int.toNat i) Enc.dflt))) (Evt.cv (List.getD l (0 + Int.toNat i) Enc.dflt)) fun i_1 => encL (Evt.v (List.getD l (0 + Int.toNat i) Enc.dflt)) (0 + i_1)] (putT (0 + Int.toNat (intV (getK (Value.agg (Array.mk [.int .i64 (Evt.s (List.getD l (0 + Int.toNat i) Enc.dflt)), .int .i64 (Evt.i (List.getD l (0 + Int.toNat i) Enc.dflt))])) (.int .i64 (0 : Int)) es))) 12 [.sc (.bool (Evt.e (List.getD l (0 + Int.toNat i) Enc.dflt) == (0 : Int)))] (putT (0 + Int.toNat (intV (getK (Value.agg (Array.mk [.int .i64 (Evt.s (List.getD l (0 + Int.toNat i) Enc.dflt)), .int .i64 (Evt.i (List.getD l (0 + Int.toNat i) Enc.dflt))])) (.int .i64 (0 : Int)) es))) 11 [.sc (.bool (Evt.e (List.getD l (0 + Int.toNat i) Enc.dflt) == (0 : Int)))] (putT (0 + Int.toNat (intV (getK (Value.agg (Array.mk [.int .i64 (Evt.s (List.getD l (0 + Int.toNat i) Enc.dflt)), .int .i64 (Evt.i (List.getD l (0 + Int.toNat i) Enc.dflt))])) (.int .i64 (0 : Int)) es))) 10 [.sc (.int .i64 i)] (encL A))))) es N (IntKind.wrap .i64 (i + (1 : Int))))))))) (onP Nx .normal (shpRs l c A.length (putT (0 + Int.toNat (intV (getK (Value.agg (Array.mk [.int .i64 (Evt.s (List.getD l (0 + Int.toNat i) Enc.dflt)), .int .i64 (Evt.i (List.getD l (0 + Int.toNat i) Enc.dflt))])) (.int .i64 (0 : Int)) es))) 12 [.sc (.bool (Evt.e (List.getD l (0 + Int.toNat i) Enc.dflt) == (0 : Int)))] (putT (0 + Int.toNat (intV (getK (Value.agg (Array.mk [.int .i64 (Evt.s (List.getD l (0 + Int.toNat i) Enc.dflt)), .int .i64 (Evt.i (List.getD l (0 + Int.toNat i) Enc.dflt))])) (.int .i64 (0 : Int)) es))) 11 [.sc (.bool (Evt.e (List.getD l (0 + Int.toNat i) Enc.dflt) == (0 : Int)))] (putT (0 + Int.toNat (intV (getK (Value.agg (Array.mk [.int .i64 (Evt.s (List.getD l (0 + Int.toNat i) Enc.dflt)), .int .i64 (Evt.i (List.getD l (0 + Int.toNat i) Enc.dflt))])) (.int .i64 (0 : Int)) es))) 10 [.sc (.int .i64 i)] (encL A)))) es N (IntKind.wrap .i64 (i + (1 : Int))))))))))))))))))))))))))))) (onP Nx (.exit 0) (shpRd l c A es N i))) := by kernel_rfl
end Go.Proofs.Ytjibiphgbhlhkaa.Ev
end
