/-
  mesg.Take: told.
-/
import Derived.Test.YtachglcffimmeaaGreatQ24
import Derived.Test.YtachglcffimmeaaGreatQ22
import Derived.Test.YtachglcffimmeaaGreatQ13
set_option linter.unusedVariables false
set_option linter.unusedSimpArgs false
set_option maxRecDepth 1000000
namespace Go.Proofs.YtachglcffimmeaaGreat.Ev
open Go Go.Proofs Go.RowKit
def t0 (L : List U8) : RT := ⟨L.length, false⟩
def t1 (L : List U8) : RT := (t0 L).nx 1
def t2 (L : List U8) : RT := (t1 L).nx 2
def t3 (L : List U8) : RT := (t2 L).nx 2
def t4 (L : List U8) : RT := (t3 L).nx 2
def t5 (L : List U8) : RT := (t4 L).nx 1
def t6' (L : List U8) : RT := (t5 L).nx 1
def t7 (L : List U8) : RT := (t6' L).nx 8
def t8 (L : List U8) : RT := rvS L (t7 L)
def t9 (L : List U8) : RT := (t8 L).nx 1
def hdT (L : List U8) : Ms := ⟨(t0 L).vl 1 L, (t1 L).vl 2 L, (t4 L).vl 1 L, (t2 L).vl 2 L, (t3 L).vl 2 L, (t5 L).vl 1 L != 0, (t6' L).vl 8 L, rvV L (t7 L), [], 1, [], 1⟩
def psT (L : List U8) : List St × RT := psL L ((t8 L).vl 1 L).toNat (t9 L) []
def tA (L : List U8) : RT := (psT L).2.nx 1
def vsT (L : List U8) : List Vl × RT := vsL L ((psT L).2.vl 1 L).toNat (tA L) []
def msT (L : List U8) : Ms := withV (hdT L) (psT L).1 (vsT L).1
def takeM (L : List U8) : Option Ms := cond (vsT L).2.q none (cond (Int.ofNat L.length == 0) none (cond (!(sameU (putQ (msT L)) L)) none (some (msT L))))
def tkAns (o : Option Ms) : Ans := .rets [ansO (o.getD zMs), .cell (.sc (.bool o.isSome))]
theorem psL_ok {L : List U8} : ∀ (r : Nat) (s : RT) (ps : List St), RtOk L.length s → RtOk L.length (psL L r s ps).2 ∧ (psL L r s ps).1.length ≤ ps.length + r
 | 0, s, ps, h => ⟨h, Nat.le_refl _⟩
 | r + 1, s, ps, h => by
  unfold psL
  cases s.q with
  | true => exact ⟨h, by show ps.length ≤ _; omega⟩
  | false =>
   obtain ⟨h1, h2⟩ := psL_ok r (ptS L s) (ps ++ [ptV L s]) h.ptS
   rw [List.length_append] at h2
   exact ⟨h1, by simp at h2; simp only [cond_false]; omega⟩
theorem rvV_fV {L : List U8} (s : RT) : fV (rvV L s) = true := by
 unfold fV
 have : (rvV L s).f = rvG L s := rfl
 have hk : (rvV L s).k = rvK L s := rfl
 rw [this, hk]
 unfold rvG
 cases h0 : rvK L s == 0 with
 | true => simp
 | false =>
 cases h1 : rvK L s == 1 with
 | true => simp
 | false =>
 cases h2 : rvK L s == 2 with
 | true => simp
 | false =>
 cases h3 : rvK L s == 3 with
 | true => simp
 | false =>
 cases h4 : rvK L s == 4 with
 | true => simp
 | false =>
 cases h5 : rvK L s == 5 with
 | true =>
  obtain ⟨N, hN, hN2⟩ := u64_nat ((s.nx 1).vl 8 L)
  rw [hN]
  simp only [cond_true, cond_false, Int.toNat_natCast, Bool.true_and, Bool.or_eq_true]
  left
  simpa using hN2
 | false => simp
theorem vsL_ok {L : List U8} : ∀ (r : Nat) (s : RT) (vs : List Vl), RtOk L.length s → vs.all fV = true → RtOk L.length (vsL L r s vs).2 ∧ (vsL L r s vs).1.length ≤ vs.length + r ∧ (vsL L r s vs).1.all fV = true
 | 0, s, vs, h, hv => ⟨h, Nat.le_refl _, hv⟩
 | r + 1, s, vs, h, hv => by
  unfold vsL
  cases s.q with
  | true => exact ⟨h, by show vs.length ≤ _; omega, hv⟩
  | false =>
   obtain ⟨h1, h2, h3⟩ := vsL_ok r (rvS L s) (vs ++ [rvV L s]) h.rvS (by rw [List.all_append, hv]; simp [rvV_fV])
   rw [List.length_append] at h2
   exact ⟨h1, by simp at h2; simp only [cond_false]; omega, h3⟩
theorem putQ_ok (m : Ms) : (putQ m).all (okA U8) = true ∧ (putQ m).length ≤ 200 := by
 unfold putQ
 cases mayQ m with
 | false => exact ⟨rfl, by show 0 ≤ 200; omega⟩
 | true =>
  cases hd : decide (Int.ofNat (pmV m).length > 200) with
  | true => exact ⟨rfl, by show 0 ≤ 200; omega⟩
  | false =>
   have := of_decide_eq_false hd
   simp only [Int.ofNat_eq_natCast] at this
   exact ⟨pmV_all m, by show (pmV m).length ≤ 200; omega⟩
theorem tnl_ (m : List (Option AObj)) (o : Option Ms) (h : o = none) : ∃ m2, objsR m m2 ∧ ansE (tkAns o) (.returned (.tuple ⟨[.agg ⟨msCs zMs nilV nilV⟩, .bool false]⟩)) (mkS m2) := by
 subst h
 refine ⟨m, objsR.refl _, ⟨_, [], rfl, ⟨[], [], rfl, ⟨_, rfl, ?_⟩, ⟨[], [], rfl, ⟨rfl, rfl, rfl⟩, rfl⟩⟩, List.nodup_nil⟩⟩
 refine rS_ rfl rfl (rS_ rfl rfl (rS_ rfl rfl (rS_ rfl rfl (rS_ rfl rfl (rS_ rfl rfl (rS_ rfl rfl (rS_ rfl rfl (rS_ rfl rfl (rS_ rfl rfl ?_)))))))))
 refine rO_ (l1 := []) (l2 := []) (rN_ rfl rfl) ?_
 exact rO_ (l1 := []) (l2 := []) (rN_ rfl rfl) rasE_nil
theorem take_some_leaf (x : AObj) (a : Ms) (h1 : a.cps = 1) (h2 : a.cvs = 1) (o : Option Ms) (h : o = some a) : ∃ m2, objsR [some x, some (rowO .mine a.ps), some (rowO .mine a.vs)] m2 ∧ ansE (tkAns o) (.returned (.tuple ⟨[.agg ⟨msCs a (.slice (some ⟨1, 0, some 0⟩) a.ps.length 1) (.slice (some ⟨2, 0, some 0⟩) a.vs.length 1)⟩, .bool true]⟩)) (mkS m2) := by
 subst h
 obtain ⟨k, id, er, n, sq, lo, ev, bd, ps, cps, vs, cvs⟩ := a
 have h1 : cps = 1 := h1
 have h2 : cvs = 1 := h2
 subst h1 h2
 refine ⟨_, objsR.refl _, ⟨_, [1, 2], rfl, ⟨[1, 2], [], rfl, ⟨_, rfl, ?_⟩, ⟨[], [], rfl, ⟨rfl, rfl, rfl⟩, rfl⟩⟩, by simp⟩⟩
 refine rS_ rfl rfl (rS_ rfl rfl (rS_ rfl rfl (rS_ rfl rfl (rS_ rfl rfl (rS_ rfl rfl (rS_ rfl rfl (rS_ rfl rfl (rS_ rfl rfl (rS_ rfl rfl ?_)))))))))
 refine rO_ (l1 := [1]) (l2 := [2]) (raE_L ps rfl fun _ => rfl) ?_
 exact rO_ (l1 := [2]) (l2 := []) (raE_L vs rfl fun _ => rfl) rasE_nil
theorem mtk_told : ToldW Tryz.prog 39 (okA1 (Rw U8) fun r => r.l.all (okA U8)) (ansA1 (Rw U8) fun r => tkAns (takeM r.l)) := by
 refine toldA1 follows fun r hg hp => ⟨toldR7, 100, 20, fun _ => 0, slT, exT r.l r.c (withP (hdT r.l) (psT r.l).1) (psT r.l).2 (msT r.l) (vsT r.l).2, toldR7_ok, fun β hβ => ?_⟩
 obtain ⟨L, c⟩ := r
 obtain ⟨hL, hl, hc⟩ := hg
 have hL : L.all (okA U8) = true := hL
 have hl : L.length ≤ 1000000 := hl
 have hc : c ≤ 1 := hc
 show lawE Tryz.prog toldR7 100 20 β (fun _ => 0) (cnOf 1 slT) (exT L c (withP (hdT L) (psT L).1) (psT L).2 (msT L) (vsT L).2) 39 [.slice (some ⟨0, 0, some 0⟩) L.length c] (mkS [some (rowO .look L)]) (outC 1 fun r q => ∃ m2, objsR q m2 ∧ ansE (tkAns (takeM L)) r (mkS m2))
 refine (vc_mtk L c (hdT L).k (hdT L).id (hdT L).er (hdT L).n (hdT L).sq (hdT L).ev (hdT L).lo (hdT L).bd (psT L).1 (psT L).2.n (psT L).2.q (vsT L).1 (vsT L).2.n (vsT L).2.q β _).mpr ?_
 try dsimp only
 have k0 : RtOk L.length (t0 L) := ⟨Nat.le_refl _, fun h => by cases h⟩
 have k1 : RtOk L.length (t1 L) := k0.nx
 have k2 : RtOk L.length (t2 L) := k1.nx
 have k3 : RtOk L.length (t3 L) := k2.nx
 have k4 : RtOk L.length (t4 L) := k3.nx
 have k5 : RtOk L.length (t5 L) := k4.nx
 have k6 : RtOk L.length (t6' L) := k5.nx
 have k7 : RtOk L.length (t7 L) := k6.nx
 have k8 : RtOk L.length (t8 L) := k7.rvS
 have k9 : RtOk L.length (t9 L) := k8.nx
 have hpn := vl1_rng hL (t8 L).n (t8 L).q
 have hpn : 0 ≤ (t8 L).vl 1 L ∧ (t8 L).vl 1 L ≤ 255 := hpn
 obtain ⟨kP, lP⟩ := psL_ok ((t8 L).vl 1 L).toNat (t9 L) [] k9
 have kP : RtOk L.length (psT L).2 := kP
 have lP : (psT L).1.length ≤ 0 + ((t8 L).vl 1 L).toNat := lP
 have kA : RtOk L.length (tA L) := kP.nx
 have hvn := vl1_rng hL (psT L).2.n (psT L).2.q
 have hvn : 0 ≤ (psT L).2.vl 1 L ∧ (psT L).2.vl 1 L ≤ 255 := hvn
 obtain ⟨kV, lV, fV'⟩ := vsL_ok ((psT L).2.vl 1 L).toNat (tA L) [] kA rfl
 have lV : (vsT L).1.length ≤ 0 + ((psT L).2.vl 1 L).toNat := lV
 have fV' : (vsT L).1.all fV = true := fV'
 have nd : ∀ (s : RT) (i c : Nat), RtOk L.length s → c ≤ 1 → i = rdI L.length s.n s.q → (wB L && List.all L (okA U8) && Nat.beq i (rdI (wN L) s.n s.q) && Nat.ble s.n (wN L) && (!s.q || Nat.beq s.n 0) && Nat.ble c 1 && true) = true := fun s i c hs hc hi => rdNeed hL hl hs hc hi
 have z0 : (0 : Nat) = rdI L.length L.length false := by show 0 = L.length - L.length; omega
 rw [wL_eq]
 refine nd_ (nd (t0 L) 0 c k0 hc z0) (nd_ (nd (t1 L) _ _ k1 (c1_ _) rfl) (nd_ (nd (t2 L) _ _ k2 (c1_ _) rfl) (nd_ (nd (t3 L) _ _ k3 (c1_ _) rfl) (nd_ (nd (t4 L) _ _ k4 (c1_ _) rfl) (nd_ (nd (t5 L) _ _ k5 (c1_ _) rfl) (nd_ (nd (t6' L) _ _ k6 (c1_ _) rfl) (nd_ (nd (t7 L) _ _ k7 (c1_ _) rfl) (nd_ (nd (t8 L) _ _ k8 (c1_ _) rfl) ⟨?_, nd_ (nd (psT L).2 _ _ kP (c1_ _) rfl) ⟨?_, ?_⟩⟩))))))))
 ·have e : (t8 L).vl 1 L = ((((t8 L).vl 1 L).toNat : Nat) : Int) := by omega
  have := mt_loop0 (c := c) (m := hdT L) (ex := exT L c (withP (hdT L) (psT L).1) (psT L).2 (msT L) (vsT L).2) hβ hL hl (r0 := ((t8 L).vl 1 L).toNat) (s0 := t9 L) (by omega) k9 (fun K h => h)
  rw [← e] at this
  refine LoopJ.seen (f1 := FT1 L c ((t8 L).vl 1 L)) (st1 := ST1 L (t9 L) (withP (hdT L) [])) ?_ this
  refine Seen.trans (Seen.void 1 (encL ([] : List St))) (Seen.objs rfl fun q o2 h => ?_)
  match q, h with
  | 0, h => cases h; exact ⟨_, rfl, rfl, fun _ _ _ h => h⟩
  | 1, h => cases h; exact ⟨_, rfl, rfl, fun _ _ _ h => h⟩
  | 2, h => cases h; exact ⟨_, rfl, rfl, fun _ _ _ h => h⟩
  | 3, h => cases h; exact ⟨_, rfl, rfl, fun _ _ _ h => ObjR.nilCell (j := 10) (k := 4) rfl h⟩
  | 4, h => cases h; exact ⟨_, rfl, rfl, fun _ _ _ h => h⟩
  | _ + 5, h => cases h
 ·have e : (psT L).2.vl 1 L = ((((psT L).2.vl 1 L).toNat : Nat) : Int) := by omega
  have := mt_loop2 (c := c) (m := hdT L) (ps := (psT L).1) (ex := exT L c (withP (hdT L) (psT L).1) (psT L).2 (msT L) (vsT L).2) hβ hL hl (r0 := ((psT L).2.vl 1 L).toNat) (s0 := tA L) (by omega) kA (fun K h => h)
  rw [← e] at this
  refine LoopJ.seen (f1 := FT2 L c ((psT L).2.vl 1 L)) (st1 := ST2 L (tA L) (withV (hdT L) (psT L).1 [])) ?_ this
  refine Seen.trans (Seen.void 3 (encL ([] : List Vl))) (Seen.objs rfl fun q o2 h => ?_)
  match q, h with
  | 0, h => cases h; exact ⟨_, rfl, rfl, fun _ _ _ h => h⟩
  | 1, h => cases h; exact ⟨_, rfl, rfl, fun _ _ _ h => h⟩
  | 2, h => cases h; exact ⟨_, rfl, rfl, fun _ _ _ h => h⟩
  | 3, h => cases h; exact ⟨_, rfl, rfl, fun _ _ _ h => ObjR.nilCell (j := 11) (k := 5) rfl h⟩
  | 4, h => cases h; exact ⟨_, rfl, rfl, fun _ _ _ h => h⟩
  | 5, h => cases h; exact ⟨_, rfl, rfl, fun _ _ _ h => h⟩
  | _ + 6, h => cases h
 ·refine br_of (fun h1 => tnl_ _ _ (by unfold takeM; rw [h1]; rfl)) (fun h1 => br_of (fun h2 => tnl_ _ _ (by unfold takeM; rw [h1, h2]; rfl)) (fun h2 => ?_))
  have hok : okA Ms (msT L) = true := okA_ms (List.all_eq_true.2 fun _ _ => rfl) (by show (psT L).1.length ≤ _; omega) (Nat.le_refl _) (List.all_eq_true.2 fun _ _ => rfl) (by show (vsT L).1.length ≤ _; omega) (Nat.le_refl _)
  have hfit : fitM (msT L) = true := by
   show ((vsT L).1.all fV && fV (rvV L (t7 L))) = true
   rw [fV', rvV_fV]; rfl
  obtain ⟨q1, q2⟩ := putQ_ok (msT L)
  simp only [Nat.zero_add]
  have hd : (Enc.dec (nthT (encTs (msT L))) : Ms) = msT L := (dE_ _).1
  refine nd_ (by simp) (nd_ (by simp) (nd_ ((okA1_sc (msT L)).trans (by rw [hok, hfit]; rfl)) (nd_ (by simp) (nd_ (by simp) (nd_ ?_ ?_)))))
  ·have e : ok2 U8 U8 (fun _ _ _ _ => true) [.cell (tdL (putQ (msT L)) (putC (msT L))), .cell (tdL L c)] = true := by
    show (okT U8 _ && okT U8 _ && true) = true
    rw [okT_tdL q1 (by omega) (by unfold putC; cases mayQ (msT L) <;> cases decide (Int.ofNat (pmV (msT L)).length > 200) <;> simp), okT_tdL hL hl hc]; rfl
   rw [← hd] at e
   exact e
  ·have e1 : listT U8 (tdL (putQ (msT L)) (putC (msT L))) = putQ (msT L) := lT_ _ _
   have e2 : listT U8 (tdL L c) = L := lT_ _ _
   refine br_of (fun h3 => tnl_ _ _ ?_) (fun h3 => ?_)
   ·have h3 : (!sameU (listT U8 (tdL (putQ (Enc.dec (nthT (encTs (msT L))))) (putC (Enc.dec (nthT (encTs (msT L))))))) (listT U8 (tdL L c))) = true := h3
    rw [hd, e1, e2] at h3
    unfold takeM; rw [h1, h2, h3]; rfl
   ·have h3 : (!sameU (listT U8 (tdL (putQ (Enc.dec (nthT (encTs (msT L))))) (putC (Enc.dec (nthT (encTs (msT L))))))) (listT U8 (tdL L c))) = false := h3
    rw [hd, e1, e2] at h3
    exact take_some_leaf _ (msT L) rfl rfl _ (by unfold takeM; rw [h1, h2, h3]; rfl)
def toldT1 : Told := toldR7.tree 39 (okA1 (Rw U8) fun r => r.l.all (okA U8)) (ansA1 (Rw U8) fun r => tkAns (takeM r.l))
theorem toldT1_ok : ToldS Tryz.prog toldT1 := Told.tree_ok toldR7_ok mtk_told
def tkMs (l : List U8) : Option Ms := match takeM l with
 | some m => cond (decide (m.k > 5)) none (some m)
 | none => none
def goneV : Value := .iface 112 (.agg ⟨[]⟩)
def slCo : List Nat := [6, 7, 30, 31, 32]
def lvCo : AX → List Nat := fun x => match x with
 | .panic _ => [6]
 | .exit _ => [6, 7]
 | _ => slCo
def dsCo : List ADef := [ADef.mk (Fn.func 37) [] [.pointer (some ⟨5, 0, none⟩)]]
def FCo (ls : List Ld) (k : Int) : AFr := mkFD 66 [(6, .pointer (some ⟨5, 0, none⟩)), (7, .pointer (some ⟨10, 0, none⟩)), (30, .slice (some ⟨11, 0, some 0⟩) ls.length 1), (31, .int .i64 ls.length), (32, .int .i64 k)] dsCo
def FCx : AFr := mkFD 66 [(6, .pointer (some ⟨5, 0, none⟩)), (7, .pointer (some ⟨10, 0, none⟩))] dsCo
def FCp : AFr := mkFD 66 [(6, .pointer (some ⟨5, 0, none⟩))] dsCo
def coS (s : Ss) (now : Int) (B : List U8) (cB : Nat) (q : Bool) (ins : List Ms) : Ss := ⟨s.on, now, B, cB, q, ins, 1, s.out, 1, s.sub, s.csub, s.num⟩
def SCp (s : Ss) (b : List U8) (now : Int) (B : List U8) (cB : Nat) (q : Bool) (ins : List Ms) : ASt := mkS (ssR .look s ++ [some (rowO .look b), some (ssO (coS s now B cB q ins) 6)] ++ ssR .mine (coS s now B cB q ins))
def SCx (s : Ss) (b : List U8) (now : Int) (B : List U8) (cB : Nat) (q : Bool) (ins : List Ms) : ASt := mkS (ssR .look s ++ [some (rowO .look b), some (ssO (coS s now B cB q ins) 6)] ++ ssR .mine (coS s now B cB q ins) ++ [some (.cells [.slice (some ⟨6, 0, some 0⟩) B.length cB, .bool q] true 0)])
def SCo (s : Ss) (b : List U8) (now : Int) (B : List U8) (cB : Nat) (q : Bool) (ins : List Ms) (ls : List Ld) : ASt := mkS (ssR .look s ++ [some (rowO .look b), some (ssO (coS s now B cB q ins) 6)] ++ ssR .mine (coS s now B cB q ins) ++ [some (.cells [.slice (some ⟨6, 0, some 0⟩) B.length cB, .bool q] true 0), some (rowO .mine ls)])
def exCo (s : Ss) (b : List U8) (now : Int) : Nat → Kt → Prop := fun _ K => (∀ ms : List Ms, loadsM tkMs (fdL s.ba s.fb b) = some ms → K (.exit 0) FCx (SCx s b now (fdB s.ba s.fb b) (fdC s.ba s.fb s.cfb b) (fdQ s.ba s.fb b) (s.ins ++ ms))) ∧ (loadsM tkMs (fdL s.ba s.fb b) = none → ∀ ins : List Ms, K (.panic goneV) FCp (SCp s b now (fdB s.ba s.fb b) (fdC s.ba s.fb s.cfb b) (fdQ s.ba s.fb b) ins))
theorem vc_co (s : Ss) (b : List U8) (d : Nat) (now : Int) (β : Bs) (K : AE → List (Option AObj) → Prop) : lawE Tryz.prog toldT1 100 20 β (fun _ => 0) (cnOf 5 fun _ => slCo) (exCo s b now) 13 [ssV s 0, .slice (some ⟨4, 0, some 0⟩) b.length d, .int .i64 now] (mkS (ssR .look s ++ [some (rowO .look b)])) (outC 5 K) =
 (fun (z5 : AE) (z14 z15 z17 z18 z34 : Nat) (z16 z35 : Bool) (z19 z28 z29 : Addr) (z27 : List U8) (z30 : Value) => ((fun (z1 : Bool) (z2 : List U8) (z6 z7 : List Ms) (z8 : List Wt) (z9 z10 z11 z12 z13 : AObj) (z23 : Td) => ((fun (z3 : List (Option AObj)) (z4 : List U8) (z20 z31 z32 z33 : Nat) => ((fun (z0 : List U8) (z24 z25 z26 : AObj) => ((fun (z21 z22 z36 : Nat) => (need (true && Nat.ble (0 + List.length (Ss.fb s)) z18) (need (true && Nat.ble (0 + List.length (Ss.ins s)) z17) (need (true && Nat.ble (0 + List.length (Ss.out s)) z14) (need (true && Nat.ble (0 + List.length (Ss.sub s)) z15) (need (okA1 (Sc Ss) (fun s => fitS (Sc.x s)) [Ta.agg [.sc z30, .sc (.int .i64 (Ss.se s)), .fr 1 z18 (Ss.cfb s) fun i => encL (Ss.fb s) (0 + i), .sc (.bool (Ss.ba s)), .fr 12 z17 (Ss.cins s) fun i => encL (Ss.ins s) (0 + i), .fr 12 z14 (Ss.cout s) fun i => encL (Ss.out s) (0 + i), .fr 15 z15 (Ss.csub s) fun i => encL (Ss.sub s) (0 + i), .sc (.int .i64 (Ss.num s))]]) (br (!Ss.on s) (K (.returned (Value.agg (Array.mk [.bool (bolD (.sc z30)), .int .i64 (Ss.se s), .slice (some ⟨5, 0, some 0⟩) z20 (Ss.cfb s), .bool z16, .slice (some z19) z31 1, .slice (some z28) z32 1, .slice (some z29) z33 (Ss.csub s), .int .i64 (Ss.num s)]))) [some z12, some z9, some z10, some z11, some z13, some (.row .mine 1 0 z20 (encL z2)), some z24, some z25, some z26]) (need (true && Nat.ble (0 + List.length z2) z20) (need (true && Nat.ble (0 + List.length b) z34) (need (okFd [Ta.agg [.fr 1 z20 (Ss.cfb s) fun i => encL z2 (0 + i), .sc (.bool z16)], Ta.cell z23]) (LoopJ Tryz.prog β (exCo s b now) 0 (loopOf Tryz.prog 13 0) (mkFD 66 [(6, .pointer (some ⟨5, 0, none⟩)), (7, .pointer (some ⟨10, 0, none⟩)), (30, .slice (some ⟨11, 0, some 0⟩) z21 1), (31, .int .i64 (Int.ofNat z21)), (32, .int .i64 (0 : Int))] [ADef.mk (Fn.func 37) [] [.pointer (some ⟨5, 0, none⟩)]]) (mkS [some z12, some z9, some z10, some z11, some z13, some (.cells [.bool (bolD (.sc z30)), .int .i64 now, .slice (some z19) z22 z36, .bool (fdQ z1 z0 z4), .slice (some z28) z31 1, .slice (some z29) z32 1, .slice (some ⟨9, 0, some 0⟩) z33 (Ss.csub s), .int .i64 (Ss.num s)] true 0), some (.row .mine 1 0 z22 (encL (fdB z1 z0 z4))), some z24, some z25, some z26, some (.cells [.slice (some z19) z22 z36, .bool (fdQ z1 z0 z4)] true 0), some (.row .mine 1 0 z21 (encL (fdL z1 z0 z4)))]) ∧ (∀ (ms : List Ms), loadsM tkMs (fdL (Ss.ba s) (Ss.fb s) b) = some ms → br z35 (K z5 z3) (br (decide (Int.ofNat (List.length (Ss.ins s ++ ms)) > (6 : Int))) (K z5 z3) (K (.returned (Value.agg (Array.mk [.bool (Ss.on s), .int .i64 now, .slice (some ⟨5, 0, some 0⟩) z27.length (fdC (Ss.ba s) (Ss.fb s) (Ss.cfb s) b), .bool z35, .slice (some z19) (List.length (Ss.ins s ++ ms)) 1, .slice (some z28) z14 1, .slice (some z29) z15 (Ss.csub s), .int .i64 (Ss.num s)]))) [some z12, some z9, some z10, some z11, some z13, some (.row .mine 1 0 z27.length (encL z27)), some (.row .mine 12 0 (List.length (Ss.ins s ++ ms)) (encL (Ss.ins s ++ ms))), some (.row .mine 12 0 z14 (encL (Ss.out s))), some (.row .mine 15 0 z15 (encL (Ss.sub s)))]))) ∧ (loadsM tkMs (fdL (Ss.ba s) (Ss.fb s) b) = none → ∀ (ins : List Ms), K z5 z3)))))))))))) (List.length (fdL z1 z0 z4)) (List.length (fdB z1 z0 z4)) (fdC z1 z0 (Ss.cfb s) z4))) (listT U8 (.fr 1 z20 (Ss.cfb s) fun i => encL z2 (0 + i))) (.row .mine 12 0 z31 (encL z6)) (.row .mine 12 0 z32 (encL z7)) (.row .mine 15 0 z33 (encL z8)))) [some z12, some z9, some z10, some z11, some z13] (listT U8 z23) z2.length z6.length z7.length z8.length)) (boolD (.sc (.bool z16))) (listT U8 (.fr 1 z18 (Ss.cfb s) fun i => encL (Ss.fb s) (0 + i))) (listT Ms (.fr 12 z17 (Ss.cins s) fun i => encL (Ss.ins s) (0 + i))) (listT Ms (.fr 12 z14 (Ss.cout s) fun i => encL (Ss.out s) (0 + i))) (listT Wt (.fr 15 z15 (Ss.csub s) fun i => encL (Ss.sub s) (0 + i))) (.row .look 12 0 z17 (encL (Ss.ins s))) (.row .look 12 0 z14 (encL (Ss.out s))) (.row .look 15 0 z15 (encL (Ss.sub s))) (.row .look 1 0 z18 (encL
 (Ss.fb s))) (.row .look 1 0 z34 (encL b)) (.fr 1 z34 d fun i => encL b (0 + i)))) (.returned (Value.agg (Array.mk [.bool false, .int .i64 (0 : Int), .slice none 0 0, .bool false, .slice none 0 0, .slice none 0 0, .slice none 0 0, .int .i64 (0 : Int)]))) (List.length (Ss.out s)) (List.length (Ss.sub s)) (List.length (Ss.ins s)) (List.length (Ss.fb s)) b.length (bolD (.sc (.bool (Ss.ba s)))) (fdQ (Ss.ba s) (Ss.fb s) b) ⟨6, 0, some 0⟩ ⟨7, 0, some 0⟩ ⟨8, 0, some 0⟩ (fdB (Ss.ba s) (Ss.fb s) b) (.bool (Ss.on s)) := by kernel_rfl
theorem vc_co_r (s : Ss) (b : List U8) (now : Int) (B : List U8) (cB : Nat) (q : Bool) (ins : List Ms) (ls : List Ld) (k : Int) (β : Bs) (N : Kt) (ex : Nat → Kt → Prop) : roundP Tryz.prog toldT1 100 20 β (fun _ => 0) (cnOf 5 fun _ => slCo) ex 13 0 5 lvCo (FCo ls k) (SCo s b now B cB q ins ls) N =
 (fun (z5 z6 z17 z18 z21 z22 z24 : Nat) (z8 z9 z11 : AObj) (z19 z20 : Addr) => ((fun (z2 z10 z12 z13 z14 z15 z16 z23 : AObj) (z3 : Ld) (z4 : List ADef) => ((fun (z1 : Prop) (z7 : Td) => ((fun (z0 : Ms) => ((fun (z25 z26 : Nat) => (br (decide (k < Int.ofNat z17)) (need (decide ((0 : Int) ≤ k)) (need (Nat.blt (Int.toNat k) z17) (need (Nat.ble 0 z24 && Nat.blt z24 z17) (need (true && Nat.ble (0 + List.length (Ld.l z3)) (List.length (Ld.l z3))) (need (okA1 (Rw U8) (fun r => List.all (Rw.l r) (okA U8)) [Ta.cell z7]) (br (!Option.isSome (takeM (listT U8 z7))) z1 (br (decide (Ms.k z0 > (5 : Int))) z1 (need (true && Nat.ble (0 + List.length (Ms.ps z0)) z25) (need (true && Nat.ble (0 + List.length (Ms.vs z0)) z26) (need (Nat.ble z21 1000000) (need (true && Nat.ble (0 + List.length ins) z18) (N .normal (mkFD 66 [(6, .pointer (some z19)), (7, .pointer (some ⟨10, 0, none⟩)), (30, .slice (some ⟨11, 0, some 0⟩) z17 1), (31, .int .i64 (Int.ofNat z17)), (32, .int .i64 (IntKind.wrap .i64 (k + (1 : Int))))] z4) (mkS [some z9, some z8, some z13, some z14, some z11, some (.cells [.bool (Ss.on s), .int .i64 now, .slice (some z20) z22 cB, .bool q, .slice (some ⟨7, 0, some 0⟩) z21 1, .slice (some ⟨8, 0, some 0⟩) z5 1, .slice (some ⟨9, 0, some 0⟩) z6 (Ss.csub s), .int .i64 (Ss.num s)] true 0), some z12, some (.row .mine 12 0 z21 fun j k_1 => mrgT (Nat.blt j z18) (encL ins (0 + j) k_1) (selT 12 1 [.sc (.int .i64 (Ms.k z0)), .sc (.int .i64 (Ms.id z0)), .sc (.int .i64 (Ms.er z0)), .sc (.int .i64 (Ms.n z0)), .sc (.int .i64 (Ms.sq z0)), .sc (.bool (Ms.lo z0)), .sc (.int .i64 (Ms.ev z0)), .sc (.int .i64 (Vl.k (Ms.bd z0))), .sc (.int .i64 (Vl.i (Ms.bd z0))), .sc (.float .f64 (Vl.f (Ms.bd z0))), .fr 1 z25 (Ms.cps z0) fun i => encL (Ms.ps z0) (0 + i), .fr 3 z26 (Ms.cvs z0) fun i => encL (Ms.vs z0) (0 + i)] (j - List.length ins) k_1)), some z15, some z16, some z10, some (.row .mine 1 0 z17 (encL ls))]))))))))))))) (N (.exit 0) (mkFD 66 [(6, .pointer (some z19)), (7, .pointer (some ⟨10, 0, none⟩))] z4) (mkS [some z9, some z8, some z13, some z14, some z11, some z2, some z12, some z23, some z15, some z16, some z10])))) (List.length (Ms.ps z0)) (List.length (Ms.vs z0)))) (Option.getD (takeM (listT U8 z7)) zMs))) (N (AX.panic (Value.iface 112 (Value.agg (Array.mk [])))) (mkFD 66 [(6, .pointer (some z19))] z4) (mkS [some z9, some z8, some z13, some z14, some z11, some z2, some z12, some z23, some z15, some z16])) (.fr 1 (List.length (Ld.l z3)) (Ld.c z3) fun i => encL (Ld.l z3) (0 + i)))) (.cells [.bool (Ss.on s), .int .i64 now, .slice (some z20) z22 cB, .bool q, .slice (some ⟨7, 0, some 0⟩) z18 1, .slice (some ⟨8, 0, some 0⟩) z5 1, .slice (some ⟨9, 0, some 0⟩) z6 (Ss.csub s), .int .i64 (Ss.num s)] true 0) (.cells [.slice (some z20) z22 cB, .bool q] true 0) (.row .mine 1 0 z22 (encL B)) (.row .look 12 0 z5 (encL (Ss.out s))) (.row .look 15 0 z6 (encL (Ss.sub s))) (.row .mine 12 0 z5 (encL (Ss.out s))) (.row .mine 15 0 z6 (encL (Ss.sub s))) (.row .mine 12 0 z18 (encL ins)) (List.getD ls z24 Enc.dflt) [ADef.mk (Fn.func 37) [] [.pointer (some z19)]])) (List.length (Ss.out s)) (List.length (Ss.sub s)) ls.length ins.length (List.length ins + 1) B.length (0 + Int.toNat k) (.row .look 12 0 (List.length (Ss.ins s)) (encL (Ss.ins s))) (.row .look 1 0 (List.length (Ss.fb s)) (encL (Ss.fb s))) (.row .look 1 0 b.length (encL b)) ⟨5, 0, none⟩ ⟨6, 0, some 0⟩ := by kernel_rfl
theorem ss_leaf5 (a b c d e : Option AObj) (x y : Ss) (h : x = y) : ∃ m2, objsR ([a, b, c, d, e] ++ ssR .mine x) m2 ∧ ansE (.ret (ansO y)) (.returned (ssV x 5)) (mkS m2) := by
 subst h
 refine ⟨_, objsR.refl _, [5, 6, 7, 8], ⟨_, rfl, ?_⟩, by simp⟩
 refine rS_ rfl rfl (rS_ rfl rfl (rO_ (l1 := [5]) (l2 := [6, 7, 8]) (raE_L x.fb rfl fun _ => rfl) ?_))
 refine rS_ rfl rfl (rO_ (l1 := [6]) (l2 := [7, 8]) (raE_L x.ins rfl fun _ => rfl) ?_)
 refine rO_ (l1 := [7]) (l2 := [8]) (raE_L x.out rfl fun _ => rfl) ?_
 refine rO_ (l1 := [8]) (l2 := []) (raE_L x.sub rfl fun _ => rfl) ?_
 exact rS_ rfl rfl rasE_nil
theorem ss_zero (m : List (Option AObj)) (y : Ss) (h : zSs = y) : ∃ m2, objsR m m2 ∧ ansE (.ret (ansO y)) (.returned (.agg ⟨ssCs zSs nilV nilV nilV nilV⟩)) (mkS m2) := by
 subst h
 refine ⟨m, objsR.refl _, [], ⟨_, rfl, ?_⟩, by simp⟩
 refine rS_ rfl rfl (rS_ rfl rfl (rO_ (l1 := []) (l2 := []) (rN_ rfl rfl) ?_))
 refine rS_ rfl rfl (rO_ (l1 := []) (l2 := []) (rN_ rfl rfl) ?_)
 refine rO_ (l1 := []) (l2 := []) (rN_ rfl rfl) ?_
 refine rO_ (l1 := []) (l2 := []) (rN_ rfl rfl) ?_
 exact rS_ rfl rfl rasE_nil
theorem loadsM_snoc {tk : List U8 → Option Ms} {xs : List Ld} {x : Ld} {a : List Ms} (h : loadsM tk xs = some a) : loadsM tk (xs ++ [x]) = match tk x.l with
  | none => none
  | some m => some (a ++ [m]) := by
 rw [loadsM_app, h]
 simp only [loadsM]
 cases tk x.l <;> rfl
theorem loadsM_none {tk : List U8 → Option Ms} {ls : List Ld} {k : Nat} (h : loadsM tk (ls.take k) = none) : loadsM tk ls = none := by
 rw [← List.take_append_drop k ls, loadsM_app, h]
def ICo (ls : List Ld) (ins0 : List Ms) (p : Nat × List Ms) : Prop := p.1 ≤ ls.length ∧ p.2.length ≤ ins0.length + p.1 ∧ ∃ ms, loadsM tkMs (ls.take p.1) = some ms ∧ p.2 = ins0 ++ ms
theorem co_loop {s : Ss} {b : List U8} {now : Int} {β : Bs} (hβ : β.X.length = 5) {B : List U8} {cB : Nat} {q : Bool} {ls : List Ld} (hB : B = fdB s.ba s.fb b) (hC : cB = fdC s.ba s.fb s.cfb b) (hq : q = fdQ s.ba s.fb b) (hls : ls = fdL s.ba s.fb b) (hok : ls.all (okA Ld) = true) (hl : s.ins.length + ls.length ≤ 900000) :
  LoopJ Tryz.prog β (exCo s b now) 0 (loopOf Tryz.prog 13 0) (FCo ls (0 : Nat)) (SCo s b now B cB q s.ins ls) := by
 refine loop_ruleP (ICo ls s.ins) (fun p => FCo ls (p.1 : Nat)) (fun p => SCo s b now B cB q p.2 ls) (fun p => ls.length - p.1) (fun p hp K hK => ?_) (0, s.ins) ⟨Nat.zero_le _, Nat.le_refl _, [], rfl, by simp⟩
 obtain ⟨hK1, hK2⟩ := hK
 rw [← hB, ← hC, ← hq, ← hls] at hK1
 rw [← hB, ← hC, ← hq, ← hls] at hK2
 obtain ⟨k, ins⟩ := p
 obtain ⟨hk, hlen, ms, hms, hins⟩ := hp
 have hk : k ≤ ls.length := hk
 have hlen : ins.length ≤ s.ins.length + k := hlen
 have hms : loadsM tkMs (ls.take k) = some ms := hms
 have hins : ins = s.ins ++ ms := hins
 have hgoal : roundP Tryz.prog toldT1 100 20 β (fun _ => 0) (cnOf 5 fun _ => slCo) (fun _ _ => False) 13 0 5 lvCo (FCo ls (k : Nat)) (SCo s b now B cB q ins ls) (NnP β (ICo ls s.ins) (fun p => ls.length - p.1) (fun p => FCo ls (p.1 : Nat)) (fun p => SCo s b now B cB q p.2 ls) (k, ins) K) → J Tryz.prog β (loopOf Tryz.prog 13 0) (FCo ls (k : Nat)) (SCo s b now B cB q ins ls) (NnP β (ICo ls s.ins) (fun p => ls.length - p.1) (fun p => FCo ls (p.1 : Nat)) (fun p => SCo s b now B cB q p.2 ls) (k, ins) K) := fun h => roundP_ok follows toldT1_ok hβ h
 refine hgoal ?_
 rw [vc_co_r]
 try dsimp only
 have e0 : Int.toNat (k : Int) = k := Int.toNat_natCast k
 simp only [e0, Nat.zero_add]
 refine br_of (fun hlt => ?_) (fun hlt => ?_)
 ·have hlt : k < ls.length := by simpa using hlt
  have hw : IntKind.wrap .i64 ((k : Int) + 1) = ((k + 1 : Nat) : Int) := w64 (by omega) (by omega)
  have c3 : Nat.blt k ls.length = true := by simpa using hlt
  obtain ⟨a1, a2, a3⟩ := okA_ld_inv (all_getA hok hlt)
  have ht := take_snoc ls hlt
  have hsn := loadsM_snoc (x := ls.getD k Enc.dflt) hms
  rw [← ht] at hsn
  have z : listT U8 (Td.fr 1 (ls.getD k Enc.dflt).l.length (ls.getD k Enc.dflt).c fun i => encL (ls.getD k Enc.dflt).l i) = (ls.getD k Enc.dflt).l := lT_ _ _
  rw [hw, z]
  refine nd_ (by simp) (nd_ c3 (nd_ (by rw [c3]; rfl) (nd_ (by simp) (nd_ (okA1_rw a1 a2 a3 a1) ?_))))
  generalize hx : takeM (ls.getD k Enc.dflt).l = o
  have hnone : tkMs (ls.getD k Enc.dflt).l = none → loadsM tkMs ls = none := fun h => by
   rw [h] at hsn
   exact loadsM_none hsn
  refine br_of (fun h1 => ?_) (fun h1 => br_of (fun h2 => ?_) (fun h2 => ?_))
  ·have ho : o = none := by cases o with | none => rfl | some m => cases h1
   have htk : tkMs (ls.getD k Enc.dflt).l = none := by unfold tkMs; rw [hx, ho]
   exact .inr ⟨_, rfl, rfl, _, _, Seen.refl _ _ _, hK2 (hnone htk) ins⟩
  ·cases o with
   | none => cases h1
   | some m =>
    have htk : tkMs (ls.getD k Enc.dflt).l = none := by
     unfold tkMs; rw [hx]
     show cond (decide (m.k > 5)) none (some m) = none
     rw [show decide (m.k > 5) = true from h2]; rfl
    exact .inr ⟨_, rfl, rfl, _, _, Seen.refl _ _ _, hK2 (hnone htk) ins⟩
  ·cases o with
   | none => cases h1
   | some m =>
    have htk : tkMs (ls.getD k Enc.dflt).l = some m := by
     unfold tkMs; rw [hx]
     show cond (decide (m.k > 5)) none (some m) = some m
     rw [show decide (m.k > 5) = false from h2]; rfl
    rw [htk] at hsn
    refine nd_ (by simp) (nd_ (by simp) (nd_ (Nat.ble_eq_true_of_le (by omega)) (nd_ (by simp) ?_)))
    refine .inl (.inl ⟨rfl, (k + 1, ins ++ [m]), ⟨hlt, by show (ins ++ [m]).length ≤ _; rw [List.length_append]; simp; omega, ms ++ [m], hsn, by rw [hins, List.append_assoc]⟩, by show ls.length - (k + 1) < ls.length - k; omega, ?_⟩)
    have hl1 : (ins ++ [m]).length = ins.length + 1 := by simp
    refine Seen.objs rfl fun q o2 h => ?_
    match q, h with
    | 0, h => cases h; exact ⟨_, rfl, rfl, fun _ _ _ h => h⟩
    | 1, h => cases h; exact ⟨_, rfl, rfl, fun _ _ _ h => h⟩
    | 2, h => cases h; exact ⟨_, rfl, rfl, fun _ _ _ h => h⟩
    | 3, h => cases h; exact ⟨_, rfl, rfl, fun _ _ _ h => h⟩
    | 4, h => cases h; exact ⟨_, rfl, rfl, fun _ _ _ h => h⟩
    | 5, h => cases h; exact ⟨_, by rw [← hl1]; rfl, rfl, fun _ _ _ h => h⟩
    | 6, h => cases h; exact ⟨_, rfl, rfl, fun _ _ _ h => h⟩
    | 7, h =>
     cases h
     refine ⟨_, rfl, rfl, fun _ _ _ h => row_app (α := Ms) (a := m) (g := encL ins) rfl rfl (fun _ _ => rfl) (fun j hj => ?_) (by simp only [Nat.zero_add]; exact h)⟩
     have hj : j < 12 := hj
     match j, hj with
     | 0, _ => rfl
     | 1, _ => rfl
     | 2, _ => rfl
     | 3, _ => rfl
     | 4, _ => rfl
     | 5, _ => rfl
     | 6, _ => rfl
     | 7, _ => rfl
     | 8, _ => rfl
     | 9, _ => rfl
     | 10, _ => rfl
     | 11, _ => rfl
    | 8, h => cases h; exact ⟨_, rfl, rfl, fun _ _ _ h => h⟩
    | 9, h => cases h; exact ⟨_, rfl, rfl, fun _ _ _ h => h⟩
    | 10, h => cases h; exact ⟨_, rfl, rfl, fun _ _ _ h => h⟩
    | 11, h => cases h; exact ⟨_, rfl, rfl, fun _ _ _ h => h⟩
    | _ + 12, h => cases h
 ·have hge : ¬ k < ls.length := by simpa using hlt
  have hkn : k = ls.length := by omega
  subst hkn
  rw [List.take_length] at hms
  have := hK1 ms hms
  rw [← hins] at this
  exact .inl (.inr ⟨by simp, by simp, _, _, Seen.refl _ _ _, this⟩)
def fitC (s : Ss) (b : List U8) : Bool := fitS s && Nat.ble s.fb.length 205 && Nat.ble b.length 100000 && b.all (okA U8) && Nat.ble s.ins.length 100000
theorem co_told : ToldW Tryz.prog 13 (okA3 (Sc Ss) (Rw U8) Int fun s b _ => fitC s.x b.l) (ansA3 (Sc Ss) (Rw U8) Int fun s b now => .ret (ansO (comeF tkMs s.x b.l now))) := by
 refine toldA3 follows fun r t now hr ht _ hp => ⟨toldT1, 100, 20, fun _ => 0, fun _ => slCo, exCo r.x t.l now, toldT1_ok, fun β hβ => ?_⟩
 obtain ⟨s⟩ := r
 obtain ⟨b, d⟩ := t
 obtain ⟨g1, g2, g3, g4, g5, g6, g7, g8, g9, g10, g11, g12⟩ := okA_ss_inv hr
 obtain ⟨t1, t2, t3⟩ := ht
 have hp : fitC s b = true := hp
 unfold fitC at hp
 simp only [Bool.and_eq_true] at hp
 obtain ⟨⟨⟨⟨p1, p2⟩, p3⟩, p4⟩, p5⟩ := hp
 have p2 := Nat.le_of_ble_eq_true p2
 have p3 := Nat.le_of_ble_eq_true p3
 have p5 := Nat.le_of_ble_eq_true p5
 have g1 : s.fb.all (okA U8) = true := g1
 show lawE Tryz.prog toldT1 100 20 β (fun _ => 0) (cnOf 5 fun _ => slCo) (exCo s b now) 13 [ssV s 0, .slice (some ⟨4, 0, some 0⟩) b.length d, .int .i64 now] (mkS (ssR .look s ++ [some (rowO .look b)])) (outC 5 fun r m => ∃ m2, objsR m m2 ∧ ansE (.ret (ansO (comeF tkMs s b now))) r (mkS m2))
 refine (vc_co s b d now β _).mpr ?_
 try dsimp only
 have z0 : listT U8 (Td.fr 1 s.fb.length s.cfb fun i => encL s.fb i) = s.fb := lT_ _ _
 have z1 : listT Ms (Td.fr 12 s.ins.length s.cins fun i => encL s.ins i) = s.ins := lT_ _ _
 have z2 : listT Ms (Td.fr 12 s.out.length s.cout fun i => encL s.out i) = s.out := lT_ _ _
 have z3 : listT Wt (Td.fr 15 s.sub.length s.csub fun i => encL s.sub i) = s.sub := lT_ _ _
 have z4 : listT U8 (Td.fr 1 b.length d fun i => encL b i) = b := lT_ _ _
 obtain ⟨q1, q2, q3, q4⟩ := fd_good (q := s.ba) g1 p4 p2
 simp only [Nat.zero_add, z0, z1, z2, z3, z4]
 refine nd_ (by simp) (nd_ (by simp) (nd_ (by simp) (nd_ (by simp) (nd_ ((okA1_sc s).trans (by rw [show okA Ss s = true from hr]; exact p1)) ?_))))
 refine br_of (fun h1 => ?_) (fun h1 => nd_ (by simp) (nd_ (by simp) (nd_ ?_ ⟨co_loop (B := fdB s.ba s.fb b) (cB := fdC s.ba s.fb s.cfb b) (q := fdQ s.ba s.fb b) (ls := fdL s.ba s.fb b) hβ rfl rfl rfl rfl q3 (by omega), fun ms hms => ?_, fun hms ins => ?_⟩)))
 ·have hon : s.on = false := by simpa using h1
  have := ss_leaf5 (some (rowO .look s.fb)) (some (rowO .look s.ins)) (some (rowO .look s.out)) (some (rowO .look s.sub)) (some (rowO .look b)) (nrm s) (comeF tkMs s b now) (comeF_off hon).symm
  exact this
 ·refine okFd_of ?_ ?_ ?_ ?_ ?_
  ·exact okT_tdL g1 g2 g3
  ·rw [show listT U8 (Td.fr 1 s.fb.length s.cfb fun i => encL s.fb i) = s.fb from z0]; exact g1
  ·exact okT_tdL t1 t2 t3
  ·rw [show listT U8 (Td.fr 1 b.length d fun i => encL b i) = b from z4]; exact p4
  ·rw [show listT U8 (Td.fr 1 s.fb.length s.cfb fun i => encL s.fb i) = s.fb from z0, show listT U8 (Td.fr 1 b.length d fun i => encL b i) = b from z4]; omega
 ·have hon : s.on = true := by simpa using h1
  have ec : comeF tkMs s b now = cond (fdQ s.ba s.fb b || decide (6 < s.ins.length + ms.length)) zSs ⟨true, now, fdB s.ba s.fb b, fdC s.ba s.fb s.cfb b, false, s.ins ++ ms, 1, s.out, 1, s.sub, s.csub, s.num⟩ := by
   unfold comeF; rw [hon, hms]; rfl
  refine br_of (fun h2 => ss_zero _ _ ?_) (fun h2 => br_of (fun h3 => ss_zero _ _ ?_) (fun h3 => ?_))
  ·rw [ec, h2]; rfl
  ·have : decide (6 < s.ins.length + ms.length) = true := by
    have := of_decide_eq_true h3
    simp only [Int.ofNat_eq_natCast, List.length_append] at this
    exact decide_eq_true (by omega)
   rw [ec, this, Bool.or_true]; rfl
  ·have hd : decide (6 < s.ins.length + ms.length) = false := by
    have := of_decide_eq_false h3
    simp only [Int.ofNat_eq_natCast, List.length_append] at this
    exact decide_eq_false (by omega)
   have e2 : coS s now (fdB s.ba s.fb b) (fdC s.ba s.fb s.cfb b) (fdQ s.ba s.fb b) (s.ins ++ ms) = comeF tkMs s b now := by
    rw [ec, hd]; unfold coS; rw [hon, h2]; rfl
   have := ss_leaf5 (some (rowO .look s.fb)) (some (rowO .look s.ins)) (some (rowO .look s.out)) (some (rowO .look s.sub)) (some (rowO .look b)) (coS s now (fdB s.ba s.fb b) (fdC s.ba s.fb s.cfb b) (fdQ s.ba s.fb b) (s.ins ++ ms)) (comeF tkMs s b now) e2
   exact this
 ·have hon : s.on = true := by simpa using h1
  refine ss_zero _ _ ?_
  unfold comeF; rw [hon, hms]; rfl
def toldT2 : Told := toldT1.tree 13 (okA3 (Sc Ss) (Rw U8) Int fun s b _ => fitC s.x b.l) (ansA3 (Sc Ss) (Rw U8) Int fun s b now => .ret (ansO (comeF tkMs s.x b.l now)))
theorem toldT2_ok : ToldS Tryz.prog toldT2 := Told.tree_ok toldT1_ok co_told
def toldU1 : Told := toldT2.tree 7 (okA1 (Rw U8) fun r => r.l.all (okA U8)) (ansA1 (Rw U8) fun r => .ret (ansO (madeS r.l)))
theorem toldU1_ok : ToldS Tryz.prog toldU1 := Told.tree_ok toldT2_ok made_told
def bsA (L : List U8) : Nat → List U8 × Int
 | 0 => ([], 0)
 | k + 1 => ((bsA L k).1 ++ byL (capM (askM L (k : Nat) (bsA L k).2).1), (askM L (k : Nat) (bsA L k).2).2)
def lvsX (b : Nat) : List Nat := cond (Nat.beq b 0) [0, 2, 7, 8, 9] [2, 8, 11, 12, 13]
def lvX1 : AX → List Nat := fun x => match x with
 | .exit _ => [0, 2, 8]
 | _ => [0, 2, 7, 8, 9]
def lvX2 : AX → List Nat := fun x => match x with
 | .exit _ => [11, 12]
 | _ => [2, 8, 11, 12, 13]
def FX1 (l m : List U8) (c e : Nat) (B : List U8) (i : Int) : AFr := mkF 80 [(0, .slice (some ⟨0, 0, some 0⟩) l.length c), (2, .slice (some ⟨2, 0, some 0⟩) m.length e), (7, .pointer (some ⟨3, 0, none⟩)), (8, .slice (some ⟨4, 0, some 0⟩) B.length 1), (9, .int .i64 i)]
def FX1x (l m : List U8) (c e : Nat) (B : List U8) : AFr := mkF 80 [(0, .slice (some ⟨0, 0, some 0⟩) l.length c), (2, .slice (some ⟨2, 0, some 0⟩) m.length e), (8, .slice (some ⟨3, 0, some 0⟩) B.length 1)]
def SX0 (l a m : List U8) : List (Option AObj) := [some (rowO .still l), some (rowO .still a), some (rowO .still m)]
def SX1 (l a m : List U8) (d : Nat) (B : List U8) (n : Int) : ASt := mkS (SX0 l a m ++ [some (.cells [.slice (some ⟨1, 0, some 0⟩) a.length d, .int .i64 n] true 0), some (rowO .mine B)])
def SX1x (l a m : List U8) (B : List U8) : ASt := mkS (SX0 l a m ++ [some (rowO .mine B)])
def FX2 (m : List U8) (e : Nat) (k n cb : Nat) (i : Int) : AFr := mkF 80 [(2, .slice (some ⟨2, 0, some 0⟩) m.length e), (8, .slice (some ⟨3, 0, some k⟩) n cb), (11, .pointer (some ⟨4, 0, none⟩)), (12, .pointer (some ⟨9, 0, none⟩)), (13, .int .i64 i)]
def SX2 (l a m : List U8) (B : List U8) (A x : Ss) : ASt := mkS (SX0 l a m ++ [some (rowO .mine B), some (ssO A 5)] ++ ssR .mine A ++ [some (ssO x 10)] ++ ssR .mine x)
def FX2x : AFr := mkF 80 [(11, .pointer (some ⟨3, 0, none⟩)), (12, .pointer (some ⟨8, 0, none⟩))]
def SX2x (l a m : List U8) (A x : Ss) : ASt := mkS (SX0 l a m ++ [some (ssO A 4)] ++ ssR .mine A ++ [some (ssO x 9)] ++ ssR .mine x)
def exX (l a m : List U8) (c d e : Nat) (B : List U8) (A : Ss) (Gd : Ss → Prop) : Nat → Kt → Prop := fun b K => cond (Nat.beq b 0) (K (.exit 0) (FX1x l m c e B) (SX1x l a m B)) (∀ x : Ss, Gd x → K (.exit 2) FX2x (SX2x l a m A x))
def rwS (a : List U8) : List U8 := rowL U8 (List.length a) (some (AObj.row Rk.still 1 0 (List.length a) (encL a)))
def rbS (a : List U8) (d : Nat) : Bool := rowB U8 (List.length a) d (some (AObj.row Rk.still 1 0 (List.length a) (encL a)))
def lL (l : List U8) (c : Nat) : List U8 := listT U8 (Td.fr 1 (List.length l) c fun i => encL l (0 + i))
theorem vc_sc (l a m B : List U8) (c d e : Nat) (A : Ss) (Gd : Ss → Prop) (β : Bs) : lawE Tryz.prog toldU1 100 20 β (fun _ => 0) (cnOf 3 lvsX) (exX l a m c d e B A Gd) 5 [.slice (some ⟨0, 0, some 0⟩) l.length c, .slice (some ⟨1, 0, some 0⟩) a.length d, .slice (some ⟨2, 0, some 0⟩) m.length e] (mkS (SX0 l a m)) trueE =
 (fun (z3 z4 : List Ms) (z5 : List Wt) (z6 z8 z14 z18 z24 z25 z26 : Nat) (z10 : Bool) (z15 : Td) (z22 : Int) => ((fun (z2 : List Td) (z7 : Td) (z9 z16 z17 : AObj) (z11 z12 z13 : Nat) => ((fun (z1 : List Td) => ((fun (z0 : Ss) => ((fun (z19 z20 z21 z23 : Nat) => (br (decide (Int.ofNat z6 > (60 : Int))) True (br (decide (Int.ofNat z18 > (40 : Int))) True (br (decide (Int.ofNat z8 > (20 : Int))) True (LoopJ Tryz.prog β (exX l a m c d e B A Gd) 0 (loopOf Tryz.prog 5 0) (mkF 80 [(0, .slice (some ⟨0, 0, some 0⟩) z6 c), (2, .slice (some ⟨2, 0, some 0⟩) z8 e), (7, .pointer (some ⟨3, 0, none⟩)), (8, .slice none 0 0), (9, Value.int .i64 (0 : Int))]) (mkS [some z16, some z9, some z17, some (.cells [.slice (some ⟨1, 0, some 0⟩) z18 d, Value.int .i64 (0 : Int)] true 0)]) ∧ need (true && Nat.ble (0 + List.length l) z6) (need (okA1 (Rw U8) (fun r => List.all (Rw.l r) (okA U8)) [Ta.cell (.fr 1 z6 c fun i => encL l (0 + i))]) (need (true && Nat.ble (0 + List.length z3) z11) (need (true && Nat.ble (0 + List.length z4) z12) (need (true && Nat.ble (0 + List.length z5) z13) (need (true && Nat.ble (0 + List.length B) z14) (need (okA3 (Sc Ss) (Rw U8) Int (fun s b x => fitC (Sc.x s) (Rw.l b)) [Ta.agg z1, Ta.cell z7, Ta.cell z15]) (LoopJ Tryz.prog β (exX l a m c d e B A Gd) 2 (loopOf Tryz.prog 5 2) (mkF 80 [(2, .slice (some ⟨2, 0, some 0⟩) z8 e), (8, .slice (some ⟨3, 0, some 0⟩) z14 1), (11, .pointer (some ⟨4, 0, none⟩)), (12, .pointer (some ⟨9, 0, none⟩)), (13, Value.int .i64 (0 : Int))]) (mkS [some z16, some z9, some z17, some (.row .mine 1 0 z14 (encL B)), some (.cells [.bool (Ss.on z0), Value.int .i64 (Ss.se z0), .slice (some ⟨5, 0, some 0⟩) z23 (Ss.cfb z0), .bool (Ss.ba z0), .slice (some ⟨6, 0, some 0⟩) z19 (Ss.cins z0), .slice (some ⟨7, 0, some 0⟩) z20 (Ss.cout z0), .slice (some ⟨8, 0, some 0⟩) z21 (Ss.csub z0), Value.int .i64 (Ss.num z0)] true 0), some (.row .mine 1 0 z23 (encL (Ss.fb z0))), some (.row .mine 12 0 z19 (encL (Ss.ins z0))), some (.row .mine 12 0 z20 (encL (Ss.out z0))), some (.row .mine 15 0 z21 (encL (Ss.sub z0))), some (.cells [.bool z10, Value.int .i64 z22, .slice (some ⟨10, 0, some 0⟩) 0 1, .bool false, .slice (some ⟨11, 0, some 0⟩) z11 1, .slice (some ⟨12, 0, some 0⟩) z12 1, .slice (some ⟨13, 0, some 0⟩) z13 1, Value.int .i64 (0 : Int)] true 0), some (.row .mine 1 0 0 (encL ([] : List U8))), some (.row .mine 12 0 z11 (encL z3)), some (.row .mine 12 0 z12 (encL z4)), some (.row .mine 15 0 z13 (encL z5))]) ∧ ∀ (x : Ss), Gd x → need (true && Nat.ble (0 + List.length (Ss.fb A)) (List.length (Ss.fb A))) (need (true && Nat.ble (0 + List.length (Ss.ins A)) z24) (need (true && Nat.ble (0 + List.length (Ss.out A)) z25) (need (true && Nat.ble (0 + List.length (Ss.sub A)) z26) (need (true && Nat.ble (0 + List.length (Ss.fb x)) (List.length (Ss.fb x))) (need (true && Nat.ble (0 + List.length (Ss.ins x)) (List.length (Ss.ins x))) (need (true && Nat.ble (0 + List.length (Ss.out x)) (List.length (Ss.out x))) (need (true && Nat.ble (0 + List.length (Ss.sub x)) (List.length (Ss.sub x))) (need (okA2 (Sc Ss) (Sc Ss) (fun x x_1 => true) [Ta.agg z2, Ta.agg [.sc (.bool (Ss.on x)), .sc (Value.int .i64 (Ss.se x)), .fr 1 (List.length (Ss.fb x)) (Ss.cfb x) fun i => encL (Ss.fb x) (0 + i), .sc (.bool (Ss.ba x)), .fr 12 (List.length (Ss.ins x)) (Ss.cins x) fun i => encL (Ss.ins x) (0 + i), .fr 12 (List.length (Ss.out x)) (Ss.cout x) fun i => encL (Ss.out x) (0 + i), .fr 15 (List.length (Ss.sub x)) (Ss.csub x) fun i => encL (Ss.sub x) (0 + i), .sc (Value.int .i64 (Ss.num x))]]) (need (sameSs (Enc.dec (nthT z2)) (Enc.dec (nthT [.sc (.bool (Ss.on x)), .sc (Value.int .i64 (Ss.se x)), .fr 1 (List.length (Ss.fb x)) (Ss.cfb x) fun i => encL (Ss.fb x) (0 + i), .sc (.bool (Ss.ba x)), .fr 12 (List.length (Ss.ins x)) (Ss.cins x) fun i => encL (Ss.ins x) (0 + i), .fr 12 (List.length (Ss.out x)) (Ss.cout x) fun i => encL (Ss.out x) (0 + i), .fr 15 (List.length (Ss.sub x)) (Ss.csub x) fun i => encL (Ss.sub x) (0 +
 i), .sc (Value.int .i64 (Ss.num x))]))) True))))))))))))))))))))) (List.length (Ss.ins z0)) (List.length (Ss.out z0)) (List.length (Ss.sub z0)) (List.length (Ss.fb z0)))) (comeF tkMs (Enc.dec (nthT z1)) (listT U8 z7) (ArgE.get (Ta.cell z15))))) [.sc (.bool z10), .sc (Value.int .i64 z22), .fr 1 (List.length ([] : List U8)) 1 fun i => encL ([] : List U8) (0 + i), .sc (.bool false), .fr 12 z11 1 fun i => encL z3 (0 + i), .fr 12 z12 1 fun i => encL z4 (0 + i), .fr 15 z13 1 fun i => encL z5 (0 + i), .sc (Value.int .i64 (0 : Int))])) [.sc (.bool (Ss.on A)), .sc (Value.int .i64 (Ss.se A)), .fr 1 (List.length (Ss.fb A)) (Ss.cfb A) fun i => encL (Ss.fb A) (0 + i), .sc (.bool (Ss.ba A)), .fr 12 z24 (Ss.cins A) fun i => encL (Ss.ins A) (0 + i), .fr 12 z25 (Ss.cout A) fun i => encL (Ss.out A) (0 + i), .fr 15 z26 (Ss.csub A) fun i => encL (Ss.sub A) (0 + i), .sc (Value.int .i64 (Ss.num A))] (.fr 1 z14 1 fun i => encL B (0 + i)) (.row .still 1 0 z18 (encL a)) (.row .still 1 0 z6 (encL l)) (.row .still 1 0 z8 (encL m)) z3.length z4.length z5.length)) (Prod.fst (inP (lL l c))) (Prod.fst (ouP (lL l c))) (Prod.fst (suP (lL l c))) l.length m.length B.length a.length (List.length (Ss.ins A)) (List.length (Ss.out A)) (List.length (Ss.sub A)) (decide (Prod.fst (onQ (lL l c)) > (0 : Int))) (.sc (Value.int .i64 (50 : Int))) (Prod.fst (seP (lL l c))) := by kernel_rfl
theorem vc_sc1_r (l a m : List U8) (c d e : Nat) (B : List U8) (n i : Int) (β : Bs) (N : Kt) : roundJ Tryz.prog toldU1 100 20 β (fun _ => 0) (cnOf 3 lvsX) (fun _ _ => False) 5 0 3 lvX1 (FX1 l m c e B i) (SX1 l a m d B n) N =
 (fun (z1 : Ms) (z5 : AObj) (z7 z8 z9 : Nat) => ((fun (z4 z6 : AObj) (z10 z11 : Nat) => ((fun (z0 : List Td) => ((fun (z2 : List U8) => ((fun (z3 : Nat) => (br (decide (i < (3 : Int))) (need (rbS a d && List.all (rwS a) (okA U8) && decide ((0 : Int) ≤ n) && true) (need (true && Nat.ble (0 + List.length (Ms.ps z1)) z10) (need (true && Nat.ble (0 + List.length (Ms.vs z1)) z11) (need (okS1 Ms (fun x => true) [Ta.agg z0]) (need (true && Nat.ble (0 + List.length z2) z2.length) (need (Nat.ble z3 1000000) (need (true && Nat.ble (0 + List.length B) z7) (N .normal (mkF 80 [(0, .slice (some ⟨0, 0, some 0⟩) z8 c), (2, .slice (some ⟨2, 0, some 0⟩) z9 e), (7, .pointer (some ⟨3, 0, none⟩)), (8, .slice (some ⟨4, 0, some 0⟩) z3 1), (9, Value.int .i64 (IntKind.wrap .i64 (i + (1 : Int))))]) (mkS [some z4, some z5, some z6, some (.cells [.slice (some ⟨1, 0, some 0⟩) a.length d, Value.int .i64 (Prod.snd (askM (rwS a) i n))] true 0), some (.row .mine 1 0 z3 fun j k => mrgT (Nat.blt j z7) (encL B (0 + j) k) (encL z2 (0 + (j - List.length B)) k))]))))))))) (N (.exit 0) (mkF 80 [(0, .slice (some ⟨0, 0, some 0⟩) z8 c), (2, .slice (some ⟨2, 0, some 0⟩) z9 e), (8, .slice (some ⟨3, 0, some 0⟩) z7 1)]) (mkS [some z4, some z5, some z6, some (.row .mine 1 0 z7 (encL B))])))) (List.length B + List.length z2))) (byL (Enc.dec (nthT z0))))) [.sc (Value.int .i64 (Ms.k z1)), .sc (Value.int .i64 (Ms.id z1)), .sc (Value.int .i64 (Ms.er z1)), .sc (Value.int .i64 (Ms.n z1)), .sc (Value.int .i64 (Ms.sq z1)), .sc (.bool (Ms.lo z1)), .sc (Value.int .i64 (Ms.ev z1)), .sc (Value.int .i64 (Vl.k (Ms.bd z1))), .sc (Value.int .i64 (Vl.i (Ms.bd z1))), .sc (Value.float .f64 (Vl.f (Ms.bd z1))), .fr 1 z10 1 fun i_1 => encL (Ms.ps z1) (0 + i_1), .fr 3 z11 1 fun i_1 => encL (Ms.vs z1) (0 + i_1)])) (.row .still 1 0 z8 (encL l)) (.row .still 1 0 z9 (encL m)) (List.length (Ms.ps z1)) (List.length (Ms.vs z1)))) (Prod.fst (askM (rwS a) i n)) (.row .still 1 0 a.length (encL a)) B.length l.length m.length := by kernel_rfl
theorem vc_sc2_r (l a m : List U8) (e : Nat) (B : List U8) (A x : Ss) (k n cb : Nat) (i : Int) (β : Bs) (N : Kt) : roundJ Tryz.prog toldU1 100 20 β (fun _ => 0) (cnOf 3 lvsX) (fun _ _ => False) 5 2 3 lvX2 (FX2 m e k n cb i) (SX2 l a m B A x) N =
 (fun (z6 z13 z16 z17 z18 z19 z28 z29 z30 z31 z37 z38 z39 : Nat) (z12 : Td) (z14 z15 : AObj) (z32 z33 z34 : Addr) (z35 : Bool) (z36 : Int) => ((fun (z0 : List Td) (z4 z7 z8 z9 z10 z21 z27 : AObj) (z5 z49 : Int) (z20 : Td) (z23 z24 z25 z26 : Bool) => ((fun (z2 : Ss) (z3 : Int) (z11 : Bool) => ((fun (z22 : Td) (z40 : Bool) (z44 z45 z46 z48 : Nat) => ((fun (z1 : Ss) => ((fun (z41 z42 z43 z47 : Nat) => (br (decide (i ≤ Int.ofNat z13)) (br (decide (i < Int.ofNat z13)) (need (decide ((0 : Int) ≤ i)) (need (Nat.blt (Int.toNat i) z13) (need (Nat.ble 0 z37 && Nat.blt z37 z13) (need z11 (need z40 (need z26 (need z23 (need z24 (need z25 (need (Nat.ble 0 (k + 0) && Nat.ble (k + 0 + (Int.toNat z3 - 0)) z39) (need (okA3 (Sc Ss) (Rw U8) Int (fun s b x => fitC (Sc.x s) (Rw.l b)) [Ta.agg z0, Ta.cell z22, Ta.cell z12]) (need z11 (need z40 (N .normal (mkF 80 [(2, .slice (some ⟨2, 0, some 0⟩) z13 e), (8, .slice (some (Addr.mk 3 0 (some (k + Int.toNat z3)))) (n - Int.toNat z3) z6), (11, .pointer (some ⟨4, 0, none⟩)), (12, .pointer (some ⟨9, 0, none⟩)), (13, Value.int .i64 z36)]) (mkS [some z14, some z15, some z21, some z27, some z4, some z10, some z7, some z8, some z9, some (.cells [.bool (Ss.on z1), Value.int .i64 (Ss.se z1), .slice (some z32) z47 (Ss.cfb z1), .bool (Ss.ba z1), .slice (some z33) z41 (Ss.cins z1), .slice (some z34) z42 (Ss.cout z1), .slice (some ⟨13, 0, some 0⟩) z43 (Ss.csub z1), Value.int .i64 (Ss.num z1)] true 0), some (.row .mine 1 0 z47 (encL (Ss.fb z1))), some (.row .mine 12 0 z41 (encL (Ss.ins z1))), some (.row .mine 12 0 z42 (encL (Ss.out z1))), some (.row .mine 15 0 z43 (encL (Ss.sub z1)))]))))))))))))))) (need z35 (need z26 (need z23 (need z24 (need z25 (need (Nat.ble 0 (k + 0) && Nat.ble (k + 0 + z38) z39) (need (okA3 (Sc Ss) (Rw U8) Int (fun s b x => fitC (Sc.x s) (Rw.l b)) [Ta.agg z0, Ta.cell z20, Ta.cell z12]) (need z35 (N .normal (mkF 80 [(2, .slice (some ⟨2, 0, some 0⟩) z13 e), (8, .slice (some (Addr.mk 3 0 (some (k + Int.toNat (Int.ofNat n))))) (n - Int.toNat (Int.ofNat n)) z6), (11, .pointer (some ⟨4, 0, none⟩)), (12, .pointer (some ⟨9, 0, none⟩)), (13, Value.int .i64 z36)]) (mkS [some z14, some z15, some z21, some z27, some z4, some z10, some z7, some z8, some z9, some (.cells [.bool (Ss.on z2), Value.int .i64 (Ss.se z2), .slice (some z32) z48 (Ss.cfb z2), .bool (Ss.ba z2), .slice (some z33) z44 (Ss.cins z2), .slice (some z34) z45 (Ss.cout z2), .slice (some ⟨13, 0, some 0⟩) z46 (Ss.csub z2), Value.int .i64 (Ss.num z2)] true 0), some (.row .mine 1 0 z48 (encL (Ss.fb z2))), some (.row .mine 12 0 z44 (encL (Ss.ins z2))), some (.row .mine 12 0 z45 (encL (Ss.out z2))), some (.row .mine 15 0 z46 (encL (Ss.sub z2)))]))))))))))) (N (.exit 2) (mkF 80 [(11, .pointer (some ⟨3, 0, none⟩)), (12, .pointer (some ⟨8, 0, none⟩))]) (mkS [some z14, some z15, some z21, some (.cells [.bool (Ss.on A), Value.int .i64 (Ss.se A), .slice (some ⟨4, 0, some 0⟩) z31 (Ss.cfb A), .bool (Ss.ba A), .slice (some ⟨5, 0, some 0⟩) z28 (Ss.cins A), .slice (some ⟨6, 0, some 0⟩) z29 (Ss.cout A), .slice (some ⟨7, 0, some 0⟩) z30 (Ss.csub A), Value.int .i64 (Ss.num A)] true 0), some z10, some z7, some z8, some z9, some (.cells [.bool (Ss.on x), Value.int .i64 (Ss.se x), .slice (some ⟨9, 0, some 0⟩) z19 (Ss.cfb x), .bool (Ss.ba x), .slice (some z32) z16 (Ss.cins x), .slice (some z33) z17 (Ss.cout x), .slice (some z34) z18 (Ss.csub x), Value.int .i64 (Ss.num x)] true 0), some (.row .mine 1 0 z19 (encL (Ss.fb x))), some (.row .mine 12 0 z16 (encL (Ss.ins x))), some (.row .mine 12 0 z17 (encL (Ss.out x))), some (.row .mine 15 0 z18 (encL (Ss.sub x)))])))) (List.length (Ss.ins z1)) (List.length (Ss.out z1)) (List.length (Ss.sub z1)) (List.length (Ss.fb z1)))) (comeF tkMs (Enc.dec (nthT z0)) (listT U8 z22) z49))) (.fr 1 (Int.toNat z3 - 0) z6 fun i => encL B (k + 0 + i)) (Nat.ble (Int.toNat z3) n) (List.length (Ss.ins z2)) (List.length (Ss.out z2)) (List.length (Ss.sub z2)) (List.length (Ss.fb z2)))) (comeF tkMs (Enc.dec (nthT z0)) (listT U8 z20) z49) (if
 Int.ofNat n < IntKind.wrap .i64 z5 then Int.ofNat n else IntKind.wrap .i64 z5) (decide ((0 : Int) ≤ if Int.ofNat n < IntKind.wrap .i64 z5 then Int.ofNat n else IntKind.wrap .i64 z5)))) [.sc (.bool (Ss.on x)), .sc (Value.int .i64 (Ss.se x)), .fr 1 z19 (Ss.cfb x) fun i => encL (Ss.fb x) (0 + i), .sc (.bool (Ss.ba x)), .fr 12 z16 (Ss.cins x) fun i => encL (Ss.ins x) (0 + i), .fr 12 z17 (Ss.cout x) fun i => encL (Ss.out x) (0 + i), .fr 15 z18 (Ss.csub x) fun i => encL (Ss.sub x) (0 + i), .sc (Value.int .i64 (Ss.num x))] (.cells [.bool (Ss.on A), Value.int .i64 (Ss.se A), .slice (some ⟨5, 0, some 0⟩) z31 (Ss.cfb A), .bool (Ss.ba A), .slice (some ⟨6, 0, some 0⟩) z28 (Ss.cins A), .slice (some ⟨7, 0, some 0⟩) z29 (Ss.cout A), .slice (some ⟨8, 0, some 0⟩) z30 (Ss.csub A), Value.int .i64 (Ss.num A)] true 0) (.row .mine 12 0 z28 (encL (Ss.ins A))) (.row .mine 12 0 z29 (encL (Ss.out A))) (.row .mine 15 0 z30 (encL (Ss.sub A))) (.row .mine 1 0 z31 (encL (Ss.fb A))) (.row .still 1 0 z13 (encL m)) (.row .mine 1 0 z39 (encL B)) (Int.tmod (U8.v (List.getD m z37 Enc.dflt)) (40 : Int)) (ArgE.get (Ta.cell z12)) (.fr 1 z38 z6 fun i => encL B (k + 0 + i)) (true && Nat.ble (0 + List.length (Ss.ins x)) z16) (true && Nat.ble (0 + List.length (Ss.out x)) z17) (true && Nat.ble (0 + List.length (Ss.sub x)) z18) (true && Nat.ble (0 + List.length (Ss.fb x)) z19))) (bif Nat.beq n 0 then cb else 0) m.length (List.length (Ss.ins x)) (List.length (Ss.out x)) (List.length (Ss.sub x)) (List.length (Ss.fb x)) (List.length (Ss.ins A)) (List.length (Ss.out A)) (List.length (Ss.sub A)) (List.length (Ss.fb A)) (0 + Int.toNat i) (Int.toNat (Int.ofNat n) - 0) B.length (.sc (Value.int .i64 (50 : Int))) (.row .still 1 0 l.length (encL l)) (.row .still 1 0 a.length (encL a)) ⟨10, 0, some 0⟩ ⟨11, 0, some 0⟩ ⟨12, 0, some 0⟩ (Nat.ble (Int.toNat (Int.ofNat n)) n) (IntKind.wrap .i64 (i + (1 : Int))) := by kernel_rfl
theorem putB_len (l : List U8) : (putL l).length ≤ 206 := by
 unfold putL; split
 ·simp
 ·rw [frameU_len]; omega
theorem putB_ok {l : List U8} (h : l.all (okA U8) = true) : (putL l).all (okA U8) = true := by
 unfold putL; split
 ·rfl
 ·exact frameU_ok h
theorem byL_ok (m : Ms) : (byL m).all (okA U8) = true ∧ (byL m).length ≤ 206 := ⟨putB_ok (pmL_ok m).1, putB_len _⟩
theorem paL_len {l : List U8} : ∀ (r : Nat) (n : Int) (ps : List St), (paL l r n ps).1.length = ps.length + r
 | 0, n, ps => rfl
 | r + 1, n, ps => by
  show (paL l r _ _).1.length = _
  rw [paL_len r]; simp; omega
theorem wrL_len {l : List U8} : ∀ (r : Nat) (n : Int) (ps : List St) (vs : List Vl), (wrL l r n ps vs).1.length = ps.length + r ∧ (wrL l r n ps vs).2.1.length = vs.length + r
 | 0, n, ps, vs => ⟨rfl, rfl⟩
 | r + 1, n, ps, vs => by
  obtain ⟨h1, h2⟩ := wrL_len (l := l) r (wrV l n).2 (ps ++ [wpathsL.getD (numF l n 6).1.toNat Enc.dflt]) (vs ++ [(wrV l n).1])
  refine ⟨?_, ?_⟩
  ·show (wrL l r _ _ _).1.length = _
   rw [h1]; simp; omega
  ·show (wrL l r _ _ _).2.1.length = _
   rw [h2]; simp; omega
theorem askM_len {l : List U8} {n : Int} (id : Int) (hp : PkOk l n) : (askM l id n).1.ps.length ≤ 3 ∧ (askM l id n).1.vs.length ≤ 3 := by
 have h5 := (nF_ (m := 5) hp (by omega)).2.2
 unfold askM
 cases ((numF l n 5).1 == 0) with
 | true =>
  have := (nF_ (m := 3) h5 (by omega)).2.1
  refine ⟨?_, by show 0 ≤ 3; omega⟩
  show (paL l _ _ _).1.length ≤ 3
  rw [paL_len]; simp; omega
 | false =>
  cases ((numF l n 5).1 == 1) with
  | true =>
   have := (nF_ (m := 2) h5 (by omega)).2.1
   obtain ⟨h1, h2⟩ := wrL_len (l := l) ((numF l (numF l n 5).2 2).1 + 1).toNat (numF l (numF l n 5).2 2).2 [] []
   refine ⟨?_, ?_⟩
   ·show (wrL l _ _ _ _).1.length ≤ 3
    rw [h1]; simp; omega
   ·show (wrL l _ _ _ _).2.1.length ≤ 3
    rw [h2]; simp; omega
  | false =>
   cases ((numF l n 5).1 == 2) with
   | true => exact ⟨by show 0 ≤ 3; omega, by show 0 ≤ 3; omega⟩
   | false =>
    cases ((numF l n 5).1 == 3) with
    | true => exact ⟨by show 1 ≤ 3; omega, by show 0 ≤ 3; omega⟩
    | false => exact ⟨by show 0 ≤ 3; omega, by show 0 ≤ 3; omega⟩
theorem all_st (l : List St) : l.all (okA St) = true := List.all_eq_true.2 fun _ _ => rfl
theorem all_vl (l : List Vl) : l.all (okA Vl) = true := List.all_eq_true.2 fun _ _ => rfl
theorem all_im (l : List Im) : l.all (okA Im) = true := List.all_eq_true.2 fun _ _ => rfl
theorem capM_ok {m : Ms} (h1 : m.ps.length ≤ 1000000) (h2 : m.vs.length ≤ 1000000) : okA Ms (capM m) = true := okA_ms (all_st _) h1 (Nat.le_refl _) (all_vl _) h2 (Nat.le_refl _)
theorem inL_all {l : List U8} : ∀ (r : Nat) (n : Int) (x : List Ms), PkOk l n → x.all (okA Ms) = true → (inL l r n x).1.all (okA Ms) = true ∧ (inL l r n x).1.length = x.length + r
 | 0, n, x, h, hx => ⟨hx, rfl⟩
 | r + 1, n, x, h, hx => by
  obtain ⟨a1, a2⟩ := askM_len ((r + 1 : Nat) : Int) h
  obtain ⟨h1, h2⟩ := inL_all r (askM l ((r + 1 : Nat) : Int) n).2 (x ++ [capM (askM l ((r + 1 : Nat) : Int) n).1]) (askM_ok _ h) (by rw [List.all_append, hx, List.all_cons, capM_ok (by omega) (by omega)]; rfl)
  exact ⟨h1, by show (inL l r _ _).1.length = _; rw [h2]; simp; omega⟩
theorem ouL_all {l : List U8} : ∀ (r : Nat) (n : Int) (x : List Ms), PkOk l n → x.all (okA Ms) = true → (ouL l r n x).1.all (okA Ms) = true ∧ (ouL l r n x).1.length = x.length + r
 | 0, n, x, h, hx => ⟨hx, rfl⟩
 | r + 1, n, x, h, hx => by
  have ha : okA Ms (anM l ((r + 1 : Nat) : Int) n) = true := okA_ms (all_st _) (by show 0 ≤ 1000000; omega) (Nat.le_refl _) (all_vl _) (by show 1 ≤ 1000000; omega) (by show 0 ≤ 1; omega)
  obtain ⟨h1, h2⟩ := ouL_all r (anV l n).2 (x ++ [anM l ((r + 1 : Nat) : Int) n]) (anV_ok h) (by rw [List.all_append, hx, List.all_cons, ha]; rfl)
  exact ⟨h1, by show (ouL l r _ _).1.length = _; rw [h2]; simp; omega⟩
theorem wkL_len {l : List U8} : ∀ (k : Nat) (n : Int) (w : Wt), w.qu.length ≤ 1 → w.cqu ≤ 1 → (wkL l k n w).1.qu.length ≤ 1 ∧ (wkL l k n w).1.cqu ≤ 1
 | 0, n, w, h1, h2 => ⟨h1, h2⟩
 | k + 1, n, w, h1, h2 => by
  refine wkL_len k _ _ ?_ ?_
  ·cases w.ha with
   | true => exact h1
   | false => exact Nat.le_refl _
  ·cases w.ha with
   | true => exact h2
   | false => exact Nat.zero_le _
theorem suL_all {l : List U8} : ∀ (r : Nat) (n : Int) (x : List Wt), PkOk l n → x.all (okA Wt) = true → (suL l r n x).1.all (okA Wt) = true ∧ (suL l r n x).1.length = x.length + r
 | 0, n, x, h, hx => ⟨hx, rfl⟩
 | r + 1, n, x, h, hx => by
  obtain ⟨a1, a2⟩ := wkL_len (l := l) (nuK l n).1.toNat (nuK l n).2 (nwW l ((r + 1 : Nat) : Int) n) (by show 0 ≤ 1; omega) (by show 1 ≤ 1; omega)
  have ha : okA Wt (suC l ((r + 1 : Nat) : Int) n).1 = true := okA_wt (all_im _) (by show (wkL l _ _ _).1.qu.length ≤ _; omega) a2
  obtain ⟨h1, h2⟩ := suL_all r (suC l ((r + 1 : Nat) : Int) n).2 (x ++ [(suC l ((r + 1 : Nat) : Int) n).1]) (suC_ok _ h) (by rw [List.all_append, hx, List.all_cons, ha]; rfl)
  exact ⟨h1, by show (suL l r _ _).1.length = _; rw [h2]; simp; omega⟩
structure GdS (s : Ss) : Prop where
 ok : okA Ss s = true
 fb : s.fb.length ≤ 205
 ins : s.ins.length ≤ 1000
 out : s.out.length ≤ 1000
 sub : s.sub.length ≤ 1000
theorem GdS.fitS {s : Ss} (h : GdS s) : fitS s = true := by
 unfold Ev.fitS
 rw [Nat.ble_eq_true_of_le (show s.ins.length ≤ 100000 by have := h.ins; omega), Nat.ble_eq_true_of_le (show s.out.length ≤ 100000 by have := h.out; omega), Nat.ble_eq_true_of_le (show s.sub.length ≤ 100000 by have := h.sub; omega)]; rfl
theorem GdS.fitC {s : Ss} (h : GdS s) {b : List U8} (hb : b.all (okA U8) = true) (hl : b.length ≤ 100000) : fitC s b = true := by
 unfold Ev.fitC
 rw [h.fitS, Nat.ble_eq_true_of_le h.fb, Nat.ble_eq_true_of_le hl, hb, Nat.ble_eq_true_of_le (show s.ins.length ≤ 100000 by have := h.ins; omega)]; rfl
theorem made_gd {l : List U8} (h1 : l.all (okA U8) = true) (h2 : l.length ≤ 1000000) : GdS (madeS l) := by
 have hp0 : PkOk l 0 := ⟨h1, h2, Int.le_refl _⟩
 obtain ⟨s0, s1, p1⟩ := nF_ (m := 9) hp0 (by omega)
 obtain ⟨i0, i1, p2⟩ := nF_ (m := 4) p1 (by omega)
 obtain ⟨a1, a2⟩ := inL_all (i0P l).1.toNat (i0P l).2 [] p2 rfl
 have p3 : PkOk l (inP l).2 := inL_ok _ _ _ p2
 obtain ⟨o0, o1, p4⟩ := nF_ (m := 3) p3 (by omega)
 obtain ⟨b1, b2⟩ := ouL_all (o0P l).1.toNat (o0P l).2 [] p4 rfl
 have p5 : PkOk l (ouP l).2 := ouL_ok _ _ _ p4
 obtain ⟨u0, u1, p6⟩ := nF_ (m := 4) p5 (by omega)
 obtain ⟨c1, c2⟩ := suL_all (s0P l).1.toNat (s0P l).2 [] p6 rfl
 have a2 : (inP l).1.length = 0 + (i0P l).1.toNat := a2
 have b2 : (ouP l).1.length = 0 + (o0P l).1.toNat := b2
 have c2 : (suP l).1.length = 0 + (s0P l).1.toNat := c2
 have i1 : (i0P l).1 < 4 := i1
 have o1 : (o0P l).1 < 3 := o1
 have u1 : (s0P l).1 < 4 := u1
 refine ⟨okA_ss rfl (by show 0 ≤ 1000000; omega) (by show 1 ≤ 1; omega) a1 (by show (inP l).1.length ≤ _; omega) (Nat.le_refl _) b1 (by show (ouP l).1.length ≤ _; omega) (Nat.le_refl _) c1 (by show (suP l).1.length ≤ _; omega) (Nat.le_refl _), by show 0 ≤ 205; omega, by show (inP l).1.length ≤ _; omega, by show (ouP l).1.length ≤ _; omega, by show (suP l).1.length ≤ _; omega⟩
theorem msT_ok {L : List U8} (hL : L.all (okA U8) = true) : okA Ms (msT L) = true := by
 have k0 : RtOk L.length (t0 L) := ⟨Nat.le_refl _, fun h => by cases h⟩
 have k7 : RtOk L.length (t7 L) := k0.nx.nx.nx.nx.nx.nx.nx
 have k8 : RtOk L.length (t8 L) := k7.rvS
 have k9 : RtOk L.length (t9 L) := k8.nx
 have hpn := vl1_rng hL (t8 L).n (t8 L).q
 have hpn : 0 ≤ (t8 L).vl 1 L ∧ (t8 L).vl 1 L ≤ 255 := hpn
 obtain ⟨kP, lP⟩ := psL_ok ((t8 L).vl 1 L).toNat (t9 L) [] k9
 have kP : RtOk L.length (psT L).2 := kP
 have lP : (psT L).1.length ≤ 0 + ((t8 L).vl 1 L).toNat := lP
 have hvn := vl1_rng hL (psT L).2.n (psT L).2.q
 have hvn : 0 ≤ (psT L).2.vl 1 L ∧ (psT L).2.vl 1 L ≤ 255 := hvn
 obtain ⟨kV, lV, fV'⟩ := vsL_ok ((psT L).2.vl 1 L).toNat (tA L) [] kP.nx rfl
 have lV : (vsT L).1.length ≤ 0 + ((psT L).2.vl 1 L).toNat := lV
 exact okA_ms (all_st _) (by show (psT L).1.length ≤ _; omega) (Nat.le_refl _) (all_vl _) (by show (vsT L).1.length ≤ _; omega) (Nat.le_refl _)
theorem tkMs_ok {l : List U8} {m : Ms} (hL : l.all (okA U8) = true) (h : tkMs l = some m) : okA Ms m = true := by
 unfold tkMs at h
 split at h
 ·rename_i m' hm
  have : m' = m := by
   revert h
   cases decide (m'.k > 5) <;> intro h
   ·cases h; rfl
   ·cases h
  subst this
  have e : m' = msT l := by
   unfold takeM at hm
   revert hm
   cases (vsT l).2.q <;> cases (Int.ofNat l.length == 0) <;> cases (!(sameU (putQ (msT l)) l)) <;> intro hm <;> first | (cases hm; done) | (cases hm; rfl)
  subst e
  exact msT_ok hL
 ·cases h
theorem loads_ok : ∀ {ls : List Ld} {ms : List Ms}, ls.all (okA Ld) = true → loadsM tkMs ls = some ms → ms.all (okA Ms) = true
 | [], ms, _, h => by cases h; rfl
 | x :: xs, ms, hok, h => by
  rw [List.all_cons, Bool.and_eq_true] at hok
  simp only [loadsM] at h
  cases hx : tkMs x.l with
  | none => rw [hx] at h; cases h
  | some m =>
   rw [hx] at h
   cases hy : loadsM tkMs xs with
   | none => rw [hy] at h; cases h
   | some a =>
    rw [hy] at h
    cases h
    rw [List.all_cons, tkMs_ok (okA_ld_inv hok.1).1 hx, loads_ok hok.2 hy]; rfl
theorem zSs_gd : GdS zSs := ⟨okA_ss rfl (by decide) (by decide) rfl (by decide) (by decide) rfl (by decide) (by decide) rfl (by decide) (by decide), by decide, by decide, by decide, by decide⟩
theorem come_gd {s : Ss} {b : List U8} {now : Int} (h : GdS s) (hb : b.all (okA U8) = true) (hbl : b.length ≤ 100000) : GdS (comeF tkMs s b now) := by
 obtain ⟨g1, g2, g3, g4, g5, g6, g7, g8, g9, g10, g11, g12⟩ := okA_ss_inv h.ok
 obtain ⟨q1, q2, q3, q4⟩ := fd_good (q := s.ba) g1 hb h.fb
 have hi := h.ins
 have ho := h.out
 have hs := h.sub
 unfold comeF
 cases s.on with
 | false => exact ⟨okA_ss g1 g2 g3 g4 g5 (Nat.le_refl _) g7 g8 (Nat.le_refl _) g10 g11 g12, h.fb, h.ins, h.out, h.sub⟩
 | true =>
  show GdS (match loadsM tkMs (fdL s.ba s.fb b) with
   | none => zSs
   | some ms => cond (fdQ s.ba s.fb b || decide (6 < s.ins.length + ms.length)) zSs ⟨true, now, fdB s.ba s.fb b, fdC s.ba s.fb s.cfb b, false, s.ins ++ ms, 1, s.out, 1, s.sub, s.csub, s.num⟩)
  cases hm : loadsM tkMs (fdL s.ba s.fb b) with
  | none => exact zSs_gd
  | some ms =>
   show GdS (cond (fdQ s.ba s.fb b || decide (6 < s.ins.length + ms.length)) zSs ⟨true, now, fdB s.ba s.fb b, fdC s.ba s.fb s.cfb b, false, s.ins ++ ms, 1, s.out, 1, s.sub, s.csub, s.num⟩)
   cases hd : (fdQ s.ba s.fb b || decide (6 < s.ins.length + ms.length)) with
   | true => exact zSs_gd
   | false =>
    rw [Bool.or_eq_false_iff] at hd
    have hd2 := of_decide_eq_false hd.2
    have hml : (s.ins ++ ms).length ≤ 6 := by rw [List.length_append]; omega
    exact ⟨okA_ss q1 (by show (fdB s.ba s.fb b).length ≤ _; omega) (fdC_le g3) (by show (s.ins ++ ms).all _ = true; rw [List.all_append, g4, loads_ok q3 hm]; rfl) (by show (s.ins ++ ms).length ≤ _; omega) (Nat.le_refl _) g7 g8 (Nat.le_refl _) g10 g11 g12, q2, by show (s.ins ++ ms).length ≤ _; omega, ho, hs⟩
theorem sameN_self (a : Nat) : sameN a a = true := decide_eq_true rfl
theorem sameVl_self' (v : Vl) : sameVl v v = true := by simp [sameVl, sameN_self]
theorem sameVs_self' (l : List Vl) : sameVs l l = true := by simp [sameVs, sameVl_self']
theorem samePs_self (l : List St) : samePs l l = true := by simp [samePs]
theorem sameM_self (m : Ms) : sameM m m = true := by
 simp [sameM, sameN_self, sameVs_self', samePs_self]
theorem sameMs_self (l : List Ms) : sameMs l l = true := by simp [sameMs, sameM_self]
theorem sameIs_self (l : List Im) : sameIs l l = true := by simp [sameIs, sameI, sameN_self]
theorem sameW_self (w : Wt) : sameW w w = true := by simp [sameW, sameN_self, sameIs_self]
theorem sameWs_self (l : List Wt) : sameWs l l = true := by simp [sameWs, sameW_self]
theorem sameSs_cz {a b : Ss} (h : cz a = cz b) : sameSs a b = true := by
 obtain ⟨a1, a2, a3, a4, a5, a6, a7, a8, a9, a10, a11, a12⟩ := a
 obtain ⟨b1, b2, b3, b4, b5, b6, b7, b8, b9, b10, b11, b12⟩ := b
 simp only [cz, Ss.mk.injEq] at h
 obtain ⟨rfl, rfl, rfl, _, rfl, rfl, _, rfl, _, rfl, _, rfl⟩ := h
 simp [sameSs, sameMs_self, sameWs_self]
end Go.Proofs.YtachglcffimmeaaGreat.Ev
