/-
  TopBlocks answers true, whatever its arguments are.
-/
import Derived.Test.YthajddbhjdkmnaaGreatDoorTkH
import Derived.Test.YthajddbhjdkmnaaGreatDoorTkC0
import Derived.Test.YthajddbhjdkmnaaGreatDoorTkD0
import Derived.Test.YthajddbhjdkmnaaGreatDoorTkL0
import Derived.Test.YthajddbhjdkmnaaGreatDoorTkC1
import Derived.Test.YthajddbhjdkmnaaGreatDoorTkD1
import Derived.Test.YthajddbhjdkmnaaGreatDoorTkL1
import Derived.Test.YthajddbhjdkmnaaGreatDoorTkC2
import Derived.Test.YthajddbhjdkmnaaGreatDoorTkD2
import Derived.Test.YthajddbhjdkmnaaGreatDoorTkL2
import Derived.Test.YthajddbhjdkmnaaGreatDoorTkC3
import Derived.Test.YthajddbhjdkmnaaGreatDoorTkD3
import Derived.Test.YthajddbhjdkmnaaGreatDoorTkL3
import Derived.Test.YthajddbhjdkmnaaGreatDoorTkP0
import Derived.Test.YthajddbhjdkmnaaGreatDoorTkP1
import Derived.Test.YthajddbhjdkmnaaGreatDoorTkP2
import Derived.Test.YthajddbhjdkmnaaGreatDoorTkP3
import Derived.Test.YthajddbhjdkmnaaGreatDoorTkP4
import Derived.Test.YthajddbhjdkmnaaGreatDoorTkP5
import Derived.Test.YthajddbhjdkmnaaGreatDoorTkP6
import Derived.Test.YthajddbhjdkmnaaGreatDoorTkP7
import Derived.Test.YthajddbhjdkmnaaGreatDoorTkA
import Derived.Test.YthajddbhjdkmnaaGreatDoorGi
set_option maxRecDepth 1000000
set_option linter.unusedVariables false
namespace Go.Proofs.YthajddbhjdkmnaaGreatDoor.Ev
open Go Go.RowKit
theorem tkPt_all {k : Nat} (h : k < 100) : TkPt k := by
  rcases (show (0 ≤ k ∧ k < 13) ∨ (13 ≤ k ∧ k < 26) ∨ (26 ≤ k ∧ k < 39) ∨ (39 ≤ k ∧ k < 52) ∨ (52 ≤ k ∧ k < 65) ∨ (65 ≤ k ∧ k < 78) ∨ (78 ≤ k ∧ k < 91) ∨ (91 ≤ k ∧ k < 100) by omega) with h | h | h | h | h | h | h | h
  · exact tk_pts0 h.1 h.2
  · exact tk_pts1 h.1 h.2
  · exact tk_pts2 h.1 h.2
  · exact tk_pts3 h.1 h.2
  · exact tk_pts4 h.1 h.2
  · exact tk_pts5 h.1 h.2
  · exact tk_pts6 h.1 h.2
  · exact tk_pts7 h.1 h.2
theorem tkLa_all {p : Nat} (h : p < 256) (L c : Nat) (y : Nat → Nat → Int) (β : Bs) : tkLaA L c y β p = tkLaB L c y β p := by
  rcases (show (0 ≤ p ∧ p < 0 + 64) ∨ (64 ≤ p ∧ p < 64 + 64) ∨ (128 ≤ p ∧ p < 128 + 64) ∨ (192 ≤ p ∧ p < 192 + 64) by omega) with h | h | h | h
  · exact tkla0.at h.1 h.2 L c y β
  · exact tkla1.at h.1 h.2 L c y β
  · exact tkla2.at h.1 h.2 L c y β
  · exact tkla3.at h.1 h.2 L c y β
theorem tka (fst inn : Bool) (L c : Nat) (y : Nat → Nat → Int) (lt now since edges N : Int) (was : Bool) (i : Nat) (x : TkV) (Nx : Kt) : tkAA fst inn L c y lt now since edges N was i x Nx = tkAB fst inn L c y lt now since edges N was i x Nx := by
  cases fst <;> cases inn
  · exact tka0 ..
  · exact tka1 ..
  · exact tka2 ..
  · exact tka3 ..
theorem tkb (inn was : Bool) (L c : Nat) (y : Nat → Nat → Int) (lt now since edges N : Int) (i : Nat) (q tq et at' nq cv : Int) (Nx : Kt) : tkBA inn was L c y lt now since edges N i q tq et at' nq cv Nx = tkBB inn was L c y lt now since edges N i q tq et at' nq cv Nx := by
  cases inn <;> cases was
  · exact tkb0 ..
  · exact tkb1 ..
  · exact tkb2 ..
  · exact tkb3 ..
/-! ### numbers -/
theorem one_d (b : Bool) : (one b == 1) = b := by cases b <;> rfl
theorem one_f : one false = 0 := rfl
theorem one_t : one true = 1 := rfl
theorem dtN_eq {y : Nat → Nat → Int} {i : Nat} (h0 : 0 ≤ y i 1) (h1 : y i 1 < 256) : ∃ d : Int, 0 ≤ d ∧ d ≤ 29 ∧ dtN y i = d := by
  refine ⟨y i 1 % 30, by omega, by omega, ?_⟩
  unfold dtN
  rw [Nat.zero_add, Int.tmod_eq_emod_of_nonneg h0, w64 (by omega) (by omega)]
theorem ptM_eq {lt : Int} (h : 0 ≤ lt) : ptM lt = lt := by
  unfold ptM
  rw [if_neg (by omega)]
theorem cvN_eq {cv : Int} (h0 : 0 ≤ cv) (h1 : cv ≤ 100) : cvN cv = cv + 1 := by
  unfold cvN
  rw [w64 (by omega) (by omega), if_neg (by omega)]
theorem ndI_of {L i : Nat} {K : Prop} (h : i < L) (hK : K) : ndI L i K := by
  unfold ndI
  exact need_of (by simpa using h) (need_of (by simpa using h) hK)
theorem ndT_of {now n : Int} {K : Prop} (h0 : 0 ≤ n) (h1 : n ≤ 29) (h2 : 0 ≤ now) (h3 : now ≤ 1000) (hK : K) : ndT now n K := by
  unfold ndT
  rw [decide_eq_false (show ¬ n < 0 by omega), decide_eq_false (show ¬ n > 1125899906842624 by omega)]
  refine need_of ?_ hK
  rw [w64 (by omega) (by omega), decide_eq_false (by omega)]; rfl
/-! ### a round -/
structure TkP where
  fst : Bool
  i : Nat
  now : Int
  since : Int
  edges : Int
  N : Int
  was : Bool
  x : TkV
/-- what the cells hold of what went by -/
def TkC (since edges : Int) (was : Bool) (x : TkV) : Prop := x.on = one was ∧ x.con = one was ∧ x.cv = edges ∧ (was = true → x.at' = since)
def TkI (L : Nat) (p : TkP) : Prop := p.i ≤ L ∧ 0 ≤ p.since ∧ p.since ≤ p.now ∧ p.now ≤ 29 * p.i ∧ 0 ≤ p.edges ∧ p.edges ≤ p.i ∧ (p.fst = true → p.edges = 0 ∧ p.was = false) ∧ (p.fst = false → TkC p.since p.edges p.was p.x)
theorem tkX_eq {fst was : Bool} {since edges : Int} {x : TkV} (a : Int) (h1 : fst = true → edges = 0 ∧ was = false) (h2 : fst = false → TkC since edges was x) : ∃ q tq et at' nq : Int, tkX fst x a = ⟨a, q, tq, et, one was, at', nq, edges, one was⟩ ∧ (was = true → at' = since) := by
  cases fst with
  | true =>
    obtain ⟨rfl, rfl⟩ := h1 rfl
    exact ⟨0, 0, 0, 0, 0, rfl, fun h => by cases h⟩
  | false =>
    obtain ⟨k1, k2, k3, k4⟩ := h2 rfl
    refine ⟨x.q, x.tq, x.et, x.at', x.nq, ?_, k4⟩
    show ({ x with a := a } : TkV) = _
    rw [← k3]
    conv => rhs; rw [show (⟨a, x.q, x.tq, x.et, one was, x.at', x.nq, x.cv, one was⟩ : TkV) = ⟨a, x.q, x.tq, x.et, x.on, x.at', x.nq, x.cv, x.con⟩ by rw [k1, k2]]
def TkW (lt since edges now : Int) (inn : Bool) (x : TkV) : Prop := (x.q == 1) = tkWant lt since now inn ∧ x.cv = edges ∧ (x.nq == 1) = decide (edges ≥ 3)
theorem tkNeed_of {lt since edges now : Int} {inn : Bool} {x : TkV} {K : Prop} (h : TkW lt since edges now inn x) (hK : K) : tkNeed lt since edges now inn x K := by
  obtain ⟨h1, h2, h3⟩ := h
  unfold tkNeed
  rw [h1, h2, h3, show (!(tkWant lt since now inn == tkWant lt since now inn)) = false by simp, show (edges != edges) = false by simp]
  exact need_of (by simp) hK
theorem tkNx_ok {inn was : Bool} {lt now since edges at' : Int} (hl0 : 0 ≤ lt) (hl1 : lt ≤ 99) (h1 : 0 ≤ since) (h2 : since ≤ now) (h3 : now ≤ 1000) (h4 : 0 ≤ edges) (h5 : edges ≤ 25) (ha : was = true → at' = since) :
    TkC (tkSi inn was now since) (tkEd inn was edges) inn (tkNx inn was lt now at' edges) ∧ TkW lt (tkSi inn was now since) (tkEd inn was edges) now inn (tkNx inn was lt now at' edges) := by
  cases inn with
  | false => exact ⟨⟨rfl, rfl, rfl, fun h => by cases h⟩, rfl, rfl, one_d _⟩
  | true =>
    have key : ∀ (s : Int), 0 ≤ s → s ≤ now → (one (goesN now s (ptM lt) == ptM lt) == 1) = decide (IntKind.wrap .i64 (now - s) ≥ lt) := by
      intro s hs hn
      rw [one_d, ptM_eq hl0, goes_eq hs hn (by omega) hl0 (by omega), w64 (by omega) (by omega)]
    cases was with
    | true =>
      obtain rfl := ha rfl
      exact ⟨⟨rfl, rfl, rfl, fun _ => rfl⟩, key at' h1 h2, rfl, one_d _⟩
    | false =>
      have e1 : cvN edges = edges + 1 := cvN_eq h4 (by omega)
      have e2 : IntKind.wrap .i64 (edges + 1) = edges + 1 := w64 (by omega) (by omega)
      refine ⟨⟨rfl, rfl, ?_, fun _ => rfl⟩, key now (by omega) (by omega), ?_, ?_⟩
      · show cvN edges = IntKind.wrap .i64 (edges + 1)
        rw [e1, e2]
      · show cvN edges = IntKind.wrap .i64 (edges + 1)
        rw [e1, e2]
      · show (one (decide (cvN edges ≥ 3)) == 1) = decide (IntKind.wrap .i64 (edges + 1) ≥ 3)
        rw [e1, e2]
        exact one_d _
/-- a scan, and what the law looks at -/
theorem tk_scan {L c : Nat} {y : Nat → Nat → Int} {lt now since edges N : Int} {inn was : Bool} {i : Nat} {q tq et at' nq : Int} (hl0 : 0 ≤ lt) (hl1 : lt ≤ 99) (h1 : 0 ≤ since) (h2 : since ≤ now) (h3 : now ≤ 1000) (h4 : 0 ≤ edges) (h5 : edges ≤ 25) (ha : was = true → at' = since) {β : Bs} (hβ : β.X.length = 1) {K : Kt}
    (hK : ∀ (si ed N' : Int) (x' : TkV), TkC si ed inn x' → 0 ≤ si → si ≤ now → 0 ≤ ed → ed ≤ edges + 1 → K .normal (tkFr (tkSl L c) lt now si ed inn i) (tkZ false lt now N' x' (tkRow L y))) :
    J Tryz.prog β tkM2 (tkFi (tkSl L c) lt now since edges was inn i) (mkS (tkB lt now N ⟨one inn, q, tq, et, one was, at', nq, edges, one was⟩ (tkRow L y))) K := by
  refine pieceO_ok follows toldK_ok hβ (lv := tkLx) (T := [118, 168]) (os := [inn && !was, false]) ?_
  refine (tkb inn was L c y lt now since edges N i q tq et at' nq edges _).mpr ?_
  unfold tkBB
  obtain ⟨k1, k2⟩ := tkNx_ok (inn := inn) (lt := lt) hl0 hl1 h1 h2 h3 h4 h5 ha
  refine tkNeed_of k2 ?_
  have hsi : 0 ≤ tkSi inn was now since ∧ tkSi inn was now since ≤ now := by
    unfold tkSi; cases (inn && !was) <;> simp <;> omega
  have hed : 0 ≤ tkEd inn was edges ∧ tkEd inn was edges ≤ edges + 1 := by
    unfold tkEd; cases (inn && !was)
    · simp; omega
    · simp only [cond_true]; rw [w64 (by omega) (by omega)]; omega
  exact hK _ _ _ _ k1 hsi.1 hsi.2 hed.1 hed.2
/-- a round, but for its count -/
theorem tk_mid {L c : Nat} {y : Nat → Nat → Int} {lt now since edges N : Int} {fst was : Bool} {i : Nat} {x : TkV} (hl0 : 0 ≤ lt) (hl1 : lt ≤ 99) (hL : i < L) (hy : 0 ≤ y i 1 ∧ y i 1 < 256) (h1 : 0 ≤ since) (h2 : since ≤ now) (h3 : now ≤ 900) (h4 : 0 ≤ edges) (h5 : edges ≤ 25) (g7 : fst = true → edges = 0 ∧ was = false) (g8 : fst = false → TkC since edges was x) {β : Bs} (hβ : β.X.length = 1) {K : Kt}
    (hK : ∀ (d si ed N' : Int) (inn : Bool) (x' : TkV), 0 ≤ d → d ≤ 29 → TkC si ed inn x' → 0 ≤ si → si ≤ now + d → 0 ≤ ed → ed ≤ edges + 1 → K .normal (tkFr (tkSl L c) lt (now + d) si ed inn i) (tkZ false lt (now + d) N' x' (tkRow L y))) :
    J Tryz.prog β tkMid (tkFr (tkSl L c) lt now since edges was i) (tkZ fst lt now N x (tkRow L y)) K := by
  rw [tkMid_eq]
  refine J.seq ?_
  refine pieceO_ok follows toldK_ok hβ (lv := tkLi) (T := []) (os := []) ?_
  refine (tkin fst L c y lt now since edges N was i x _).mpr ?_
  unfold tkInB
  refine ndI_of hL ?_
  generalize inB y i = inn
  show J Tryz.prog β (chainC tkA tkM2) (tkFi (tkSl L c) lt now since edges was inn i) (tkZ fst lt now N x (tkRow L y)) K
  refine pieceL_ok follows toldK_ok hβ (lv := tkLi) (T := [66]) (os := [inn]) ?_
  refine (tka fst inn L c y lt now since edges N was i x _).mpr ?_
  unfold tkAB
  obtain ⟨d, d0, d1, hd⟩ := dtN_eq hy.1 hy.2
  have hn : nowN y i now = now + d := by
    unfold nowN
    rw [hd, w64 (by omega) (by omega)]
  obtain ⟨q, tq, et, at', nq, hx, ha⟩ := tkX_eq (one inn) g7 g8
  rw [hn, hd, hx]
  refine ndI_of hL (ndI_of hL (ndT_of d0 d1 (by omega) (by omega) ?_))
  exact tk_scan hl0 hl1 h1 (by omega) (by omega) h4 h5 ha hβ fun si ed N' x' k1 k2 k3 k4 k5 => hK d si ed N' inn x' d0 d1 k1 k2 k3 k4 k5
theorem tk_loop {L c : Nat} {y : Nat → Nat → Int} {lt : Int} (hl0 : 0 ≤ lt) (hl1 : lt ≤ 99) (hL : L ≤ 25) (hy : ∀ i, i < L → 0 ≤ y i 1 ∧ y i 1 < 256) {β : Bs} (hβ : β.X.length = 1) : ∀ p, TkI L p → LoopJ Tryz.prog β (exT L y) 0 tkBody (tkFr (tkSl L c) lt p.now p.since p.edges p.was p.i) (tkZ p.fst lt p.now p.N p.x (tkRow L y)) := by
  refine loop_rule (TkI L) (fun p => tkFr (tkSl L c) lt p.now p.since p.edges p.was p.i) (fun p => tkZ p.fst lt p.now p.N p.x (tkRow L y)) (fun p => L - p.i) (fun p hI K hK => ?_)
  have hK : K (.exit 0) (mkF 169 []) (mkS [some (tkRow L y)]) := hK
  obtain ⟨fst, i, now, since, edges, N, was, x⟩ := p
  obtain ⟨g1, g2, g3, g4, g5, g6, g7, g8⟩ := hI
  have g1 : i ≤ L := g1
  have g2 : 0 ≤ since := g2
  have g3 : since ≤ now := g3
  have g4 : now ≤ 29 * i := g4
  have g5 : 0 ≤ edges := g5
  have g6 : edges ≤ i := g6
  have g7 : fst = true → edges = 0 ∧ was = false := g7
  have g8 : fst = false → TkC since edges was x := g8
  rw [tkBody_eq]
  refine J.seq ?_
  show J Tryz.prog β tkHead (tkFr (tkSl L c) lt now since edges was i) (tkZ fst lt now N x (tkRow L y)) _
  rcases Nat.lt_or_ge i L with hi | hi
  · refine pieceO_ok follows toldK_ok hβ (lv := tkLo) (T := [55]) (os := [true]) ?_
    refine (tkhd fst L c y lt now since edges N was i x _).mpr ?_
    unfold tkHdB
    refine need_of (by simpa using hi) ?_
    show J Tryz.prog β (.seq (.block 1 tkMid) tkTail) (tkFr (tkSl L c) lt now since edges was i) (tkZ fst lt now N x (tkRow L y)) _
    refine J.seq (J.block ?_)
    refine tk_mid hl0 hl1 hi (hy i hi) g2 g3 (by omega) g5 (by omega) g7 g8 hβ ?_
    intro d si ed N' inn x' d0 d1 k1 k2 k3 k4 k5
    show J Tryz.prog β tkTail (tkFr (tkSl L c) lt (now + d) si ed inn i) (tkZ false lt (now + d) N' x' (tkRow L y)) _
    refine pieceO_ok follows toldK_ok hβ (lv := tkLx) (T := []) (os := []) ?_
    have e := tktl L c y lt (now + d) si ed N' inn i x'
    unfold tkTlA at e
    rw [e]
    unfold tkTlB
    rw [w64 (by simp only [Int.ofNat_eq_natCast]; omega) (by simp only [Int.ofNat_eq_natCast]; omega)]
    refine .inl ⟨rfl, ⟨false, i + 1, now + d, si, ed, N', inn, x'⟩, ⟨hi, k2, k3, (by show now + d ≤ 29 * ((i + 1 : Nat) : Int); omega), k4, (by show ed ≤ ((i + 1 : Nat) : Int); omega), (fun h => by cases h), fun _ => k1⟩, (by show L - (i + 1) < L - i; omega), ?_⟩
    exact Seen.refl _ _ _
  · have hiL : i = L := by omega
    refine pieceO_ok follows toldK_ok hβ (lv := tkLo) (T := [55]) (os := [false]) ?_
    refine (tkex fst L c y lt now since edges N was i x _).mpr ?_
    unfold tkExB
    refine need_of (by simp; omega) ?_
    exact .inr ⟨by simp, by simp, _, _, Seen.refl _ _ _, hK⟩
theorem tk_law {l : List U2} {c : Nat} {x : Int} (hl : ∀ a ∈ l, 0 ≤ a.a ∧ a.a < 256 ∧ 0 ≤ a.b ∧ a.b < 256) (h0 : 0 ≤ x) (h1 : x ≤ 255) (w : World) (hgl : GlA w) (args' : Array Value) (hA : PW (TR w (There w)) [tdL l c, Td.sc (.int .u8 x)] args'.toList) :
    Calls Tryz.prog 3 args' w fun e w' => e = .returned (.bool true) ∧ Below w.heap.size w w' := by
  obtain ⟨p, rfl⟩ := Int.eq_ofNat_of_zero_le h0
  have hp : p < 256 := by omega
  have hk : p % 100 < 100 := by omega
  have hy : ∀ i, i < l.length → 0 ≤ (fun i j => match j with | 0 => (l.getD i (Enc.dflt : U2)).a | _ => (l.getD i (Enc.dflt : U2)).b : Nat → Nat → Int) i 1 ∧ (fun i j => match j with | 0 => (l.getD i (Enc.dflt : U2)).a | _ => (l.getD i (Enc.dflt : U2)).b : Nat → Nat → Int) i 1 < 256 := fun i hi => by
    have := hl (l.getD i Enc.dflt) (by rw [List.getD_eq_getElem?_getD, List.getElem?_eq_getElem hi]; exact List.getElem_mem hi)
    exact this.2.2
  have hr : (fun i j => u2E (l.getD i (Enc.dflt : U2)) j : Nat → Nat → Td) = fun i j => .sc (.int .u8 ((fun i j => match j with | 0 => (l.getD i (Enc.dflt : U2)).a | _ => (l.getD i (Enc.dflt : U2)).b : Nat → Nat → Int) i j)) := by
    funext i j
    cases j <;> rfl
  refine law_top (C := toldTn (p % 100)) (fuel := 1000) (n := 50) (un := fun _ => 0) (lvs := fun _ => [0, 6, 9, 10, 11, 12, 13, 14]) (ex := exT l.length (fun i j => match j with | 0 => (l.getD i (Enc.dflt : U2)).a | _ => (l.getD i (Enc.dflt : U2)).b)) follows (toldTn_ok (tkPt_all hk)) (fun β hβ => ?_) w args' hA hgl
  show lawE _ _ _ _ _ _ (cnOf 1 (fun _ => [0, 6, 9, 10, 11, 12, 13, 14])) _ _ [tkSl l.length c, .int .u8 (.ofNat p)] (mkS [some (.row .still 2 0 l.length fun i j => u2E (l.getD i (Enc.dflt : U2)) j)]) trueE
  rw [hr]
  revert hy
  generalize (fun i j => match j with | 0 => (l.getD i (Enc.dflt : U2)).a | _ => (l.getD i (Enc.dflt : U2)).b : Nat → Nat → Int) = y
  intro hy
  generalize l.length = L at hy ⊢
  show tkLaA L c y β p
  rw [tkLa_all hp]
  unfold tkLaB
  refine br_of (fun _ => trivial) (fun h => ?_)
  have hL : L ≤ 25 := by simp at h; omega
  refine ⟨?_, trivial⟩
  exact tk_loop (lt := .ofNat (p % 100)) (by simp only [Int.ofNat_eq_natCast]; omega) (by simp only [Int.ofNat_eq_natCast]; omega) hL hy hβ ⟨true, 0, 0, 0, 0, 0, false, tk0⟩ ⟨Nat.zero_le _, by decide, by decide, by decide, by decide, by decide, fun _ => ⟨rfl, rfl⟩, fun h => by cases h⟩
end Go.Proofs.YthajddbhjdkmnaaGreatDoor.Ev
