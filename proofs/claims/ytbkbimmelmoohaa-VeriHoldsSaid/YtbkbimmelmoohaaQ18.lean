/-
  Values, writes, as data that lie in cells.
-/
import Derived.Test.YtbkbimmelmoohaaQ17
set_option linter.unusedVariables false
set_option linter.unusedSimpArgs false
set_option linter.unusedSectionVars false
section
namespace Go.Proofs.Ytbkbimmelmoohaa.Ev
open Go Go.RowKit
instance encI : Enc Int where
 es := 1
 enc a _ := .sc (.int .i64 a)
 dec c := match c 0 with | .sc (.int .i64 a) => a | _ => 0
 ok c := match c 0 with | .sc (.int .i64 _) => true | _ => false
 dflt := 0
 good c := (match c 0 with | .sc (.int .i64 _) => true | _ => false) = true
 okgood c h := h
 law c h w F j y hj ht := by
  have : j = 0 := by omega
  subst this
  revert h ht
  cases c 0 with
  | fr => intro h; cases h
  | sc x =>
   cases x with
   | int k a => cases k <;> first | (intro h; cases h; done) | exact fun _ ht => ht
   | _ => intro h; cases h
 back a := rfl
 mrg a b w F j y hj := ⟨fun h => h, fun h => h⟩
structure Vl where
 k : Int
 i : Int
 f : Nat
def vlE (v : Vl) (j : Nat) : Td := match j with
 | 0 => .sc (.int .i64 v.k)
 | 1 => .sc (.int .i64 v.i)
 | _ => .sc (.float .f64 v.f)
def vlD (c : Nat → Td) : Vl := match c 0, c 1, c 2 with
 | .sc (.int .i64 k), .sc (.int .i64 i), .sc (.float .f64 f) => ⟨k, i, f⟩
 | _, _, _ => ⟨0, 0, 0⟩
def vlOk (c : Nat → Td) : Bool := match c 0, c 1, c 2 with
 | .sc (.int .i64 k), .sc (.int .i64 i), .sc (.float .f64 f) => true
 | _, _, _ => false
theorem vlOk_inv {c : Nat → Td} (h : vlOk c = true) : c 0 = .sc (.int .i64 (vlD c).k) ∧ c 1 = .sc (.int .i64 (vlD c).i) ∧ c 2 = .sc (.float .f64 (vlD c).f) := by
 unfold vlOk at h
 split at h
 ·rename_i k i f h0 h1 h2
  simp only [vlD, h0, h1, h2, and_self]
 ·cases h
instance encV : Enc Vl where
 es := 3
 enc := vlE
 dec := vlD
 ok := vlOk
 dflt := ⟨0, 0, 0⟩
 good c := vlOk c = true
 okgood c h := h
 law c h w F j y hj ht := by
  obtain ⟨h0, h1, h2⟩ := vlOk_inv h
  match j, hj with
  | 0, _ => rw [h0] at ht; exact ht
  | 1, _ => rw [h1] at ht; exact ht
  | 2, _ => rw [h2] at ht; exact ht
 back a := rfl
 mrg a b w F j y hj := match j, hj with
  | 0, _ => ⟨fun h => h, fun h => h⟩
  | 1, _ => ⟨fun h => h, fun h => h⟩
  | 2, _ => ⟨fun h => h, fun h => h⟩
structure Wr where
 s : Int
 d : Int
 a : List Int
 ca : Nat
 v : List Vl
 cv : Nat
def wrE (w : Wr) (j : Nat) : Td := match j with
 | 0 => .sc (.int .i64 w.s)
 | 1 => .sc (.int .i64 w.d)
 | 2 => .fr 1 w.a.length w.ca (encL w.a)
 | _ => .fr 3 w.v.length w.cv (encL w.v)
def intD (t : Td) : Int := match t with | .sc (.int .i64 k) => k | _ => 0
def intOk (t : Td) : Bool := match t with | .sc (.int .i64 _) => true | _ => false
theorem intOk_inv {t : Td} (h : intOk t = true) : t = .sc (.int .i64 (intD t)) := by
 unfold intOk at h
 split at h
 ·rfl
 ·cases h
instance encW : Enc Wr where
 es := 4
 enc := wrE
 dec c := ⟨intD (c 0), intD (c 1), listT Int (c 2), nilT (c 2), listT Vl (c 3), nilT (c 3)⟩
 ok c := intOk (c 0) && intOk (c 1) && okT Int (c 2) && okT Vl (c 3)
 dflt := ⟨0, 0, [], 1, [], 1⟩
 good c := intOk (c 0) = true ∧ intOk (c 1) = true ∧ goodT Int (c 2) ∧ goodT Vl (c 3)
 okgood c h := by
  simp only [Bool.and_eq_true] at h
  exact ⟨h.1.1.1, h.1.1.2, okT_good h.1.2, okT_good h.2⟩
 law c h w F j y hj ht := by
  obtain ⟨h0, h1, h2, h3⟩ := h
  match j, hj with
  | 0, _ => rw [intOk_inv h0] at ht; exact ht
  | 1, _ => rw [intOk_inv h1] at ht; exact ht
  | 2, _ => exact goodT_TR (α := Int) h2 ht
  | 3, _ => exact goodT_TR (α := Vl) h3 ht
 back a := by
  obtain ⟨s, d, a, ca, v, cv⟩ := a
  show (⟨s, d, decL a.length (encL a), ca, decL v.length (encL v), cv⟩ : Wr) = _
  rw [decL_encL, decL_encL]
 mrg a b w F j y hj := match j, hj with
  | 0, _ => ⟨fun h => h, fun h => h⟩
  | 1, _ => ⟨fun h => h, fun h => h⟩
  | 2, _ => ⟨mrgL_true' (α := Int) (by decide), mrgL_false' (α := Int) (by decide)⟩
  | 3, _ => ⟨mrgL_true' (α := Vl) (by decide), mrgL_false' (α := Vl) (by decide)⟩
def wrFit (w : Wr) : Bool := Nat.ble w.ca 1 && Nat.ble w.a.length 1000000 && Nat.ble w.cv 1 && Nat.ble w.v.length 1000000
theorem okA_int (a : Int) : okA Int a = true := rfl
theorem okA_vl (a : Vl) : okA Vl a = true := rfl
theorem allI (l : List Int) : l.all (okA Int) = true := by rw [List.all_eq_true]; exact fun _ _ => rfl
theorem allV (l : List Vl) : l.all (okA Vl) = true := by rw [List.all_eq_true]; exact fun _ _ => rfl
theorem okA_wr {w : Wr} (h1 : w.ca ≤ 1) (h2 : w.a.length ≤ 1000000) (h3 : w.cv ≤ 1) (h4 : w.v.length ≤ 1000000) : okA Wr w = true := by
 show (intOk (.sc (.int .i64 w.s)) && intOk (.sc (.int .i64 w.d)) && okT Int (tdL w.a w.ca) && okT Vl (tdL w.v w.cv)) = true
 rw [okT_tdL (allI _) h2 h1, okT_tdL (allV _) h4 h3]; rfl
theorem okA_wr_inv {w : Wr} (h : okA Wr w = true) : w.ca ≤ 1 ∧ w.a.length ≤ 1000000 ∧ w.cv ≤ 1 ∧ w.v.length ≤ 1000000 := by
 have h : (intOk (.sc (.int .i64 w.s)) && intOk (.sc (.int .i64 w.d)) && okT Int (tdL w.a w.ca) && okT Vl (tdL w.v w.cv)) = true := h
 simp only [Bool.and_eq_true] at h
 have h1 := okT_len h.1.2
 have h2 := okT_len h.2
 rw [listT_tdL, nilT_tdL] at h1 h2
 exact ⟨h1.2, h1.1, h2.2, h2.1⟩
def shI (_ : Nat) : Sh := .int .i64
def shV (j : Nat) : Sh := match j with
 | 0 => .int .i64
 | 1 => .int .i64
 | _ => .flt .f64
def shWr (j : Nat) : Sh := match j with
 | 0 => .int .i64
 | 1 => .int .i64
 | 2 => .sl 1 shI
 | _ => .sl 3 shV
theorem sh_int {t : Td} (h : ShOk (.int .i64) t) : ∃ n, t = .sc (.int .i64 n) := by
 cases t with
 | fr => exact h.elim
 | sc x =>
  cases x with
  | int k n => obtain ⟨rfl, _⟩ := h; exact ⟨n, rfl⟩
  | _ => exact h.elim
theorem sh_flt {t : Td} (h : ShOk (.flt .f64) t) : ∃ n, t = .sc (.float .f64 n) := by
 cases t with
 | fr => exact h.elim
 | sc x =>
  cases x with
  | float k n => obtain ⟨rfl, _⟩ := h; exact ⟨n, rfl⟩
  | _ => exact h.elim
theorem goodI (c : Nat → Td) (h : ∀ j, j < 1 → ShOk (shI j) (c j)) : Enc.good Int c := by
 obtain ⟨n, hn⟩ := sh_int (h 0 (by omega))
 show (match c 0 with | .sc (.int .i64 _) => true | _ => false) = true
 rw [hn]
theorem goodV (c : Nat → Td) (h : ∀ j, j < 3 → ShOk (shV j) (c j)) : Enc.good Vl c := by
 obtain ⟨n, hn⟩ := sh_int (h 0 (by omega))
 obtain ⟨m, hm⟩ := sh_int (h 1 (by omega))
 obtain ⟨f, hf⟩ := sh_flt (h 2 (by omega))
 show vlOk c = true
 simp only [vlOk, hn, hm, hf]
theorem goodW (c : Nat → Td) (h : ∀ j, j < 4 → ShOk (shWr j) (c j)) : Enc.good Wr c := by
 obtain ⟨n, hn⟩ := sh_int (h 0 (by omega))
 obtain ⟨m, hm⟩ := sh_int (h 1 (by omega))
 exact ⟨by rw [hn]; rfl, by rw [hm]; rfl, goodT_sh (α := Int) goodI (h 2 (by omega)), goodT_sh (α := Vl) goodV (h 3 (by omega))⟩
theorem goodW_nil {t : Td} (h : goodT Wr t) : ∀ w ∈ (listT Wr t), w.ca ≤ 1 ∧ w.cv ≤ 1 := goodT_all (fun c hc => ⟨goodT_nil hc.2.2.1, goodT_nil hc.2.2.2⟩) h
end Go.Proofs.Ytbkbimmelmoohaa.Ev
end
section
namespace Go.Proofs.Ytbkbimmelmoohaa.Ev
open Go
def scalN : Nat → Value → Bool
 | 0, v => (match v with | .int .. | .bool _ | .float .. | .string _ => true | _ => false)
 | n + 1, .tuple vs => vs.toList.all (scalN n)
 | n + 1, .agg vs => vs.toList.all (scalN n)
 | n + 1, v => (match v with | .int .. | .bool _ | .float .. | .string _ => true | _ => false)
theorem VR.scalN {ρ ρ' : Rho} : ∀ (n : Nat) {v v' : Value}, scalN n v = true → VR ρ v v' → VR ρ' v v' := by
 intro n
 induction n with
 | zero => intro v v' hs h; exact VR.scal1 hs h
 | succ n ih =>
  intro v v' hs h
  cases h with
  | tuple a a' ha h =>
   refine .tuple a a' ha fun i x y hx hy => ?_
   simp only [Ev.scalN, List.all_eq_true] at hs
   exact ih (hs x (by simpa using Array.mem_of_getElem? hx)) (h i x y hx hy)
  | agg a a' ha h =>
   refine .agg a a' ha fun i x y hx hy => ?_
   simp only [Ev.scalN, List.all_eq_true] at hs
   exact ih (hs x (by simpa using Array.mem_of_getElem? hx)) (h i x y hx hy)
  | bool b => exact .bool b
  | int k n => exact .int k n
  | float k b => exact .float k b
  | nan k b b' h h' => exact .nan k b b' h h'
  | string s => exact .string s
  | any v => cases hs
  | _ => cases hs
theorem VRL.scalN {ρ ρ' : Rho} {l l' : List Value} {n : Nat} (hs : l.all (scalN n) = true) (h : VRL ρ l l') : VRL ρ' l l' :=
 ⟨h.1, fun i x y hx hy => VR.scalN n (by rw [List.all_eq_true] at hs; exact hs x (List.mem_of_getElem? hx)) (h.2 i x y hx hy)⟩
theorem Told.also_okN {P : Program} {C : Told} {g : FuncId} {spec : List Value → Option Value} (n : Nat) (hC : ToldS P C)
  (h : ∀ args v, spec args = some v → args.all (scalN n) = true ∧ scalN n v = true ∧ ∀ (w : World) (args' : Array Value), VRL (fun _ => none) args args'.toList → Calls P g args' w fun e w' => (∃ ρ' v', e = .returned v' ∧ VR ρ' v v') ∧ RowKit.Below w.heap.size w w') :
  ToldS P (C.also g spec) := by
 intro f c hc args st r st' hwf hr
 unfold Told.also at hc
 cases hb : Nat.beq f g with
 | false => rw [hb] at hc; exact hC f c hc args st r st' hwf hr
 | true =>
  rw [hb] at hc
  have := Nat.eq_of_beq_eq_true hb
  subst this
  simp only [cond_true, Option.some.injEq] at hc
  subst hc
  simp only at hr
  split at hr
  ·rename_i v hv
   cases hr
   obtain ⟨h1, h2, h3⟩ := h args v hv
   refine ⟨LoS.refl _, fun ρ w args' ha hw hf => (h3 w args' (ha.scalN h1)).mono fun e w' he => ?_⟩
   obtain ⟨⟨ρ', v', rfl, hv'⟩, hb⟩ := he
   exact ⟨ρ, ⟨v', rfl, VR.scalN n h2 hv'⟩, Mv.below hw _ hb⟩
  ·cases hr
def tabF : List (Nat × Nat) → Nat → Option Nat
 | [], _ => none
 | (a, b) :: l, n => cond (Nat.beq n a) (some b) (tabF l n)
def tabK (ki ko : IntKind) (n : Nat) (st : ASt) (K : AE → ASt → Prop) : List (Nat × Nat) → Prop
 | [] => False
 | (a, b) :: l => br (Nat.beq n a) (K (.returned (.int ko (Int.ofNat b))) st) (tabK ki ko n st K l)
theorem tabK_ok {ki ko : IntKind} {n : Nat} {st : ASt} {K : AE → ASt → Prop} : ∀ {l : List (Nat × Nat)}, tabK ki ko n st K l → ∃ b, tabF l n = some b ∧ K (.returned (.int ko (Int.ofNat b))) st := by
 intro l
 induction l with
 | nil => intro h; exact h.elim
 | cons p l ih =>
  obtain ⟨a, b⟩ := p
  intro h
  rcases br_elim h with ⟨h1, h⟩ | ⟨h1, h⟩
  ·exact ⟨b, by simp only [tabF, h1, cond_true], h⟩
  ·obtain ⟨b', h2, h3⟩ := ih h
   exact ⟨b', by simp only [tabF, h1, cond_false, h2], h3⟩
def tabSpec (ki ko : IntKind) (l : List (Nat × Nat)) (args : List Value) : Option Value := match args with
 | [.int k n] => match decide (k = ki) && decide (0 ≤ n), tabF l n.toNat with
  | true, some b => some (.int ko (Int.ofNat b))
  | _, _ => none
 | _ => none
def Told.tab (C : Told) (g : FuncId) (ki ko : IntKind) (l : List (Nat × Nat)) : Told := fun f => cond (Nat.beq f g) (some ⟨fun args st => match tabSpec ki ko l args with
 | some v => .ok (.returned v, st)
 | none => .er "told", fun args st K => match args with
  | [.int k n] => need (decide (k = ki) && decide (0 ≤ n)) (tabK ki ko n.toNat st K l)
  | _ => False, fun args st K h => by
  split at h
  ·rename_i k n
   obtain ⟨h1, h2⟩ := need_elim h
   obtain ⟨b, h3, h4⟩ := tabK_ok h2
   exact ⟨_, _, by simp only [tabSpec, h1, h3], h4⟩
  ·exact h.elim⟩) (C f)
theorem Told.tab_ok {P : Program} {C : Told} {g : FuncId} {ki ko : IntKind} {l : List (Nat × Nat)} (hC : ToldS P C)
  (h : ∀ (n b : Nat), tabF l n = some b → ∀ (w : World) (args' : Array Value), VRL (fun _ => none) [.int ki (Int.ofNat n)] args'.toList → Calls P g args' w fun e w' => (∃ ρ' v', e = .returned v' ∧ VR ρ' (.int ko (Int.ofNat b)) v') ∧ RowKit.Below w.heap.size w w') :
  ToldS P (C.tab g ki ko l) := by
 have main : ToldS P (C.also g (tabSpec ki ko l)) := by
  refine Told.also_ok hC fun args v hv => ?_
  unfold tabSpec at hv
  split at hv
  ·rename_i k n
   split at hv
   ·rename_i b h1 h2
    cases hv
    simp only [Bool.and_eq_true, decide_eq_true_eq] at h1
    obtain ⟨rfl, h0⟩ := h1
    obtain ⟨m, rfl⟩ := Int.eq_ofNat_of_zero_le h0
    exact ⟨rfl, rfl, fun w args' ha => h m b (by simpa using h2) w args' ha⟩
   ·cases hv
  ·cases hv
 intro f c hc args st r st' hwf hr
 unfold Told.tab at hc
 cases hb : Nat.beq f g with
 | false => rw [hb] at hc; exact hC f c hc args st r st' hwf hr
 | true =>
  rw [hb] at hc
  simp only [cond_true, Option.some.injEq] at hc
  subst hc
  have h2 := main f ⟨_, _, _⟩ (show (C.also g (tabSpec ki ko l)) f = some _ from by unfold Told.also; rw [hb, cond_true])
  exact h2 args st r st' hwf hr
end Go.Proofs.Ytbkbimmelmoohaa.Ev
end
section
namespace Go.Proofs.Ytbkbimmelmoohaa.Ev
open Go Go.Proofs Go.RowKit
class EncM (α : Type) [Enc α] : Prop where
 cong : ∀ (c c' : Nat → Td), (∀ j, j < Enc.es α → c j = c' j) → (Enc.dec c : α) = Enc.dec c' ∧ Enc.ok α c = Enc.ok α c'
 mt : ∀ (a b : α), Enc.dec (fun j => mrgT true (Enc.enc a j) (Enc.enc b j)) = a ∧ Enc.ok α (fun j => mrgT true (Enc.enc a j) (Enc.enc b j)) = Enc.ok α (Enc.enc a)
 mf : ∀ (a b : α), Enc.dec (fun j => mrgT false (Enc.enc a j) (Enc.enc b j)) = b ∧ Enc.ok α (fun j => mrgT false (Enc.enc a j) (Enc.enc b j)) = Enc.ok α (Enc.enc b)
section
variable {α : Type} [Enc α] [EncM α]
theorem mrgT_fr (h0 : Enc.es α ≠ 0) (b : Bool) (l m : List α) (c d : Nat) : mrgT b (.fr (Enc.es α) l.length c (encL l)) (.fr (Enc.es α) m.length d (encL m)) = .fr (Enc.es α) (cond b l.length m.length) (cond b c d) fun i j => mrgT b (encL l i j) (encL m i j) := by
 have hs : sameEs (Enc.es α) l.length (Enc.es α) m.length = true := by simp [sameEs, Nat.beq_refl]
 simp only [mrgT, hs, cond_true, beq_false h0, cond_false]
theorem decL_congr {n : Nat} {e e' : Nat → Nat → Td} (h : ∀ i, i < n → (Enc.dec (e i) : α) = Enc.dec (e' i)) : (decL n e : List α) = decL n e' := by
 unfold decL
 exact List.map_congr_left fun i hi => h i (List.mem_range.1 hi)
theorem okL_congr {n : Nat} {e e' : Nat → Nat → Td} (h : ∀ i, i < n → Enc.ok α (e i) = Enc.ok α (e' i)) : okL α n e = okL α n e' := by
 unfold okL
 rw [Bool.eq_iff_iff, List.all_eq_true, List.all_eq_true]
 exact ⟨fun k i hi => by rw [← h i (List.mem_range.1 hi)]; exact k i hi, fun k i hi => by rw [h i (List.mem_range.1 hi)]; exact k i hi⟩
theorem mrgT_t (h0 : Enc.es α ≠ 0) (l m : List α) (c d : Nat) : listT α (mrgT true (.fr (Enc.es α) l.length c (encL l)) (.fr (Enc.es α) m.length d (encL m))) = l ∧ nilT (mrgT true (.fr (Enc.es α) l.length c (encL l)) (.fr (Enc.es α) m.length d (encL m))) = c ∧ okT α (mrgT true (.fr (Enc.es α) l.length c (encL l)) (.fr (Enc.es α) m.length d (encL m))) = okT α (.fr (Enc.es α) l.length c (encL l)) := by
 rw [mrgT_fr h0]
 refine ⟨?_, rfl, ?_⟩
 ·show decL l.length _ = l
  rw [decL_congr (e' := encL l) fun i hi => by show Enc.dec (fun j => mrgT true (Enc.enc (l.getD i Enc.dflt) j) (Enc.enc (m.getD i Enc.dflt) j)) = Enc.dec (Enc.enc (l.getD i Enc.dflt)); rw [(EncM.mt _ _).1, Enc.back]]
  exact decL_encL l
 ·simp only [okT, cond_true]
  rw [okL_congr (e := fun i j => mrgT true (encL l i j) (encL m i j)) (e' := encL l) fun i hi => (EncM.mt (l.getD i Enc.dflt) (m.getD i Enc.dflt)).2]
theorem mrgT_f (h0 : Enc.es α ≠ 0) (l m : List α) (c d : Nat) : listT α (mrgT false (.fr (Enc.es α) l.length c (encL l)) (.fr (Enc.es α) m.length d (encL m))) = m ∧ nilT (mrgT false (.fr (Enc.es α) l.length c (encL l)) (.fr (Enc.es α) m.length d (encL m))) = d ∧ okT α (mrgT false (.fr (Enc.es α) l.length c (encL l)) (.fr (Enc.es α) m.length d (encL m))) = okT α (.fr (Enc.es α) m.length d (encL m)) := by
 rw [mrgT_fr h0]
 refine ⟨?_, rfl, ?_⟩
 ·show decL m.length _ = m
  rw [decL_congr (e' := encL m) fun i hi => by show Enc.dec (fun j => mrgT false (Enc.enc (l.getD i Enc.dflt) j) (Enc.enc (m.getD i Enc.dflt) j)) = Enc.dec (Enc.enc (m.getD i Enc.dflt)); rw [(EncM.mf _ _).1, Enc.back]]
  exact decL_encL m
 ·simp only [okT, cond_false]
  rw [okL_congr (e := fun i j => mrgT false (encL l i j) (encL m i j)) (e' := encL m) fun i hi => (EncM.mf (l.getD i Enc.dflt) (m.getD i Enc.dflt)).2]
theorem app_dec {l : List α} {a : α} {ts : List Td} {e2 : Nat} (h : ∀ j, j < Enc.es α → nthT ts j = Enc.enc a j) (i : Nat) (hi : i < l.length + 1) :
  (Enc.dec (fun j => mrgT (Nat.blt i l.length) (encL l i j) (selT e2 1 ts (i - l.length) j)) : α) = (l ++ [a]).getD i Enc.dflt ∧ Enc.ok α (fun j => mrgT (Nat.blt i l.length) (encL l i j) (selT e2 1 ts (i - l.length) j)) = Enc.ok α (Enc.enc ((l ++ [a]).getD i Enc.dflt)) := by
 have hc := EncM.cong (α := α) (fun j => mrgT (Nat.blt i l.length) (encL l i j) (selT e2 1 ts (i - l.length) j)) (fun j => mrgT (Nat.blt i l.length) (Enc.enc (l.getD i Enc.dflt) j) (Enc.enc a j)) fun j hj => by
  show mrgT _ _ (nthT ts j) = _
  rw [h j hj]; rfl
 rw [hc.1, hc.2]
 by_cases hil : i < l.length
 ·have hb : Nat.blt i l.length = true := by simpa using hil
  rw [hb, getD_app_lt _ _ _ hil]
  exact EncM.mt _ _
 ·rw [blt_false hil]
  have : i = l.length := by omega
  subst this
  rw [getD_app_ge _ _ _ (Nat.le_refl _), Nat.sub_self]
  exact EncM.mf _ _
theorem listT_app {l : List α} {a : α} {ts : List Td} {es e2 c : Nat} {g : Nat → Nat → Td} (hes : es = Enc.es α) (hg : ∀ i j, g i j = encL l i j) (h : ∀ j, j < Enc.es α → nthT ts j = Enc.enc a j) :
  listT α (.fr es (l.length + 1) c fun i j => mrgT (Nat.blt i l.length) (g i j) (selT e2 1 ts (i - l.length) j)) = l ++ [a] := by
 subst hes
 have hg : g = encL l := by funext i j; exact hg i j
 subst hg
 show decL (l.length + 1) _ = _
 rw [decL_congr (e' := encL (l ++ [a])) fun i hi => by rw [(app_dec h i hi).1]; exact (Enc.back _).symm]
 have := decL_encL (l ++ [a])
 rw [List.length_append] at this
 exact this
theorem okT_app {l : List α} {a : α} {ts : List Td} {es e2 c : Nat} {g : Nat → Nat → Td} (hes : es = Enc.es α) (hg : ∀ i j, g i j = encL l i j) (h : ∀ j, j < Enc.es α → nthT ts j = Enc.enc a j) (hok : (l ++ [a]).all (okA α) = true) (hc : c ≤ 1) (hl : l.length + 1 ≤ 1000000) :
  okT α (.fr es (l.length + 1) c fun i j => mrgT (Nat.blt i l.length) (g i j) (selT e2 1 ts (i - l.length) j)) = true := by
 subst hes
 have hg : g = encL l := by funext i j; exact hg i j
 subst hg
 simp only [okT, Bool.or_eq_true, Bool.and_eq_true]
 refine .inl ⟨⟨⟨Nat.beq_refl _, ?_⟩, Nat.ble_eq_true_of_le hc⟩, Nat.ble_eq_true_of_le hl⟩
 rw [okL_congr (e' := encL (l ++ [a])) fun i hi => (app_dec h i hi).2]
 have := okL_encL hok
 rw [List.length_append] at this
 exact this
end
end Go.Proofs.Ytbkbimmelmoohaa.Ev
end
section
namespace Go.Proofs.Ytbkbimmelmoohaa.Ev
open Go Go.RowKit
structure In where
 op : Int
 kd : Int
 a : Int
 n : Int
 v : Vl
def inE (x : In) (j : Nat) : Td := match j with
 | 0 => .sc (.int .i64 x.op)
 | 1 => .sc (.int .i64 x.kd)
 | 2 => .sc (.int .i64 x.a)
 | 3 => .sc (.int .i64 x.n)
 | 4 => .sc (.int .i64 x.v.k)
 | 5 => .sc (.int .i64 x.v.i)
 | _ => .sc (.float .f64 x.v.f)
def fltD (t : Td) : Nat := match t with | .sc (.float .f64 f) => f | _ => 0
def fltOk (t : Td) : Bool := match t with | .sc (.float .f64 _) => true | _ => false
theorem fltOk_inv {t : Td} (h : fltOk t = true) : t = .sc (.float .f64 (fltD t)) := by
 unfold fltOk at h
 split at h
 ·rfl
 ·cases h
def inD (c : Nat → Td) : In := ⟨intD (c 0), intD (c 1), intD (c 2), intD (c 3), ⟨intD (c 4), intD (c 5), fltD (c 6)⟩⟩
def inFit (x : In) : Bool := decide (x.v.f < 18446744073709551616) && decide (-9223372036854775808 ≤ x.v.i) && decide (x.v.i < 9223372036854775808)
def inOk (c : Nat → Td) : Bool := intOk (c 0) && intOk (c 1) && intOk (c 2) && intOk (c 3) && intOk (c 4) && intOk (c 5) && fltOk (c 6) && inFit (inD c)
instance encIn : Enc In where
 es := 7
 enc := inE
 dec := inD
 ok := inOk
 dflt := ⟨0, 0, 0, 0, ⟨0, 0, 0⟩⟩
 good c := inOk c = true
 okgood c h := h
 law c h w F j y hj ht := by
  unfold inOk at h
  simp only [Bool.and_eq_true] at h
  obtain ⟨⟨⟨⟨⟨⟨⟨h0, h1⟩, h2⟩, h3⟩, h4⟩, h5⟩, h6⟩, h7⟩ := h
  match j, hj with
  | 0, _ => rw [intOk_inv h0] at ht; exact ht
  | 1, _ => rw [intOk_inv h1] at ht; exact ht
  | 2, _ => rw [intOk_inv h2] at ht; exact ht
  | 3, _ => rw [intOk_inv h3] at ht; exact ht
  | 4, _ => rw [intOk_inv h4] at ht; exact ht
  | 5, _ => rw [intOk_inv h5] at ht; exact ht
  | 6, _ => rw [fltOk_inv h6] at ht; exact ht
 back a := rfl
 mrg a b w F j y hj := match j, hj with
  | 0, _ => ⟨fun h => h, fun h => h⟩
  | 1, _ => ⟨fun h => h, fun h => h⟩
  | 2, _ => ⟨fun h => h, fun h => h⟩
  | 3, _ => ⟨fun h => h, fun h => h⟩
  | 4, _ => ⟨fun h => h, fun h => h⟩
  | 5, _ => ⟨fun h => h, fun h => h⟩
  | 6, _ => ⟨fun h => h, fun h => h⟩
instance : EncM In where
 cong c c' h := by
  have h0 : c 0 = c' 0 := h 0 (by show 0 < 7; omega)
  have h1 : c 1 = c' 1 := h 1 (by show 1 < 7; omega)
  have h2 : c 2 = c' 2 := h 2 (by show 2 < 7; omega)
  have h3 : c 3 = c' 3 := h 3 (by show 3 < 7; omega)
  have h4 : c 4 = c' 4 := h 4 (by show 4 < 7; omega)
  have h5 : c 5 = c' 5 := h 5 (by show 5 < 7; omega)
  have h6 : c 6 = c' 6 := h 6 (by show 6 < 7; omega)
  have hd : inD c = inD c' := by unfold inD; rw [h0, h1, h2, h3, h4, h5, h6]
  exact ⟨hd, by show inOk c = inOk c'; unfold inOk; rw [h0, h1, h2, h3, h4, h5, h6, hd]⟩
 mt a b := ⟨rfl, rfl⟩
 mf a b := ⟨rfl, rfl⟩
theorem okA_in (x : In) : okA In x = inFit x := rfl
def shIn (j : Nat) : Sh := match j with
 | 0 => .int .i64
 | 1 => .int .i64
 | 2 => .int .i64
 | 3 => .int .i64
 | 4 => .int .i64
 | 5 => .int .i64
 | _ => .flt .f64
theorem sh_intB {t : Td} (h : ShOk (.int .i64) t) : ∃ n, t = .sc (.int .i64 n) ∧ -9223372036854775808 ≤ n ∧ n < 9223372036854775808 := by
 cases t with
 | fr => exact h.elim
 | sc x =>
  cases x with
  | int k n =>
   obtain ⟨rfl, h⟩ := h
   refine ⟨n, rfl, ?_⟩
   simp [Lit.wf, IntKind.min, IntKind.max, IntKind.signed, IntKind.bits] at h
   omega
  | _ => exact h.elim
theorem inFit_iff (x : In) : inFit x = true ↔ x.v.f < 18446744073709551616 ∧ -9223372036854775808 ≤ x.v.i ∧ x.v.i < 9223372036854775808 := by
 unfold inFit
 simp only [Bool.and_eq_true, decide_eq_true_eq]
 exact ⟨fun h => ⟨h.1.1, h.1.2, h.2⟩, fun h => ⟨⟨h.1, h.2.1⟩, h.2.2⟩⟩
theorem sh_fltB {t : Td} (h : ShOk (.flt .f64) t) : ∃ n, t = .sc (.float .f64 n) ∧ n < 18446744073709551616 := by
 cases t with
 | fr => exact h.elim
 | sc x =>
  cases x with
  | float k n => obtain ⟨rfl, h⟩ := h; exact ⟨n, rfl, by simpa [Lit.wf] using h⟩
  | _ => exact h.elim
theorem goodIn (c : Nat → Td) (h : ∀ j, j < 7 → ShOk (shIn j) (c j)) : Enc.good In c := by
 obtain ⟨n0, h0⟩ := sh_int (h 0 (by omega))
 obtain ⟨n1, h1⟩ := sh_int (h 1 (by omega))
 obtain ⟨n2, h2⟩ := sh_int (h 2 (by omega))
 obtain ⟨n3, h3⟩ := sh_int (h 3 (by omega))
 obtain ⟨n4, h4⟩ := sh_int (h 4 (by omega))
 obtain ⟨n5, h5, hb5⟩ := sh_intB (h 5 (by omega))
 obtain ⟨f, hf, hb⟩ := sh_fltB (h 6 (by omega))
 show inOk c = true
 unfold inOk inFit inD
 rw [h0, h1, h2, h3, h4, h5, hf]
 show (true && true && true && true && true && true && true && (decide (f < _) && decide (_ ≤ n5) && decide (n5 < _))) = true
 rw [decide_eq_true hb, decide_eq_true hb5.1, decide_eq_true hb5.2]; rfl
theorem goodIn_all {t : Td} (h : goodT In t) : (listT In t).all (okA In) = true := by
 rw [List.all_eq_true]
 refine goodT_all (p := fun b => okA In b = true) (fun c hc => ?_) h
 have hc : inOk c = true := hc
 unfold inOk at hc
 rw [Bool.and_eq_true] at hc
 exact hc.2
end Go.Proofs.Ytbkbimmelmoohaa.Ev
end
section
namespace Go.Proofs.Ytbkbimmelmoohaa.Ev
open Go
set_option maxRecDepth 1000000
theorem vc_rbits1 (a : Nat) (K : AE → ASt → Prop) : funK Try.prog noTold 100 20 53 [.float .f64 a] st0 K =
  br (Ieee.double.order a a != some .eq) (K (.returned (.int .u64 (Int.ofNat 9221120237041090561))) st0) (need (!nanB .f64 a) (K (.returned (.int .u64 (Int.ofNat a))) st0)) := by kernel_rfl
def toldB1 : Told := toldA.also 53 bitsSpec
theorem toldB1_ok : ToldS Try.prog toldB1 := by
 refine Told.also_ok toldA_ok ?_
 intro args v hv
 unfold bitsSpec at hv
 split at hv
 ·rename_i a
  cases hv
  refine ⟨rfl, rfl, fun w args' ha => ?_⟩
  refine sym_is (fuel := 100) (n := 20) follows (noTold_ok _) ?_ w args' ha
  rw [vc_rbits1]; exact bits_main a
 ·cases hv
theorem br_val {α : Type} (c : Bool) (K : α → Prop) (x y : α) : br c (K x) (K y) = K (cond c x y) := by cases c <;> rfl
theorem need_val (c : Bool) (A : Prop) (h : c = true) : need c A = A := by rw [h]; rfl
end Go.Proofs.Ytbkbimmelmoohaa.Ev
end
section
set_option maxRecDepth 1000000
namespace Go.Proofs.Ytbkbimmelmoohaa.Ev
open Go Go.Proofs
theorem vc_val (k i : Int) (f : Nat) (K : AE → Prop) : funK Try.prog toldB1 100 20 32 [.agg (Array.mk [.int .i64 k, .int .i64 i, .float .f64 f])] st0 (fun r _ => K r) =
 (br (k == (5 : Int)) (K (.returned (.bool (i == (0 : Int))))) (br (Int.ofNat (bitsN f) != (0 : Int)) (K (.returned (.bool false))) (br (k == (1 : Int)) (br (i == (0 : Int)) (K (.returned (.bool true))) (K (.returned (.bool (i == (1 : Int)))))) (br (k == (2 : Int)) (K (.returned (.bool (i == IntKind.wrap .i64 (IntKind.wrap .i16 i))))) (br (k == (3 : Int)) (K (.returned (.bool (i == IntKind.wrap .i64 (IntKind.wrap .i32 i))))) (K (.returned (.bool (k == (4 : Int)))))))))) := by kernel_rfl
theorem vc_mval (k i : Int) (f : Nat) (K : AE → Prop) : funK Try.prog toldB1 100 20 43 [.agg (Array.mk [.int .i64 k, .int .i64 i, .float .f64 f])] st0 (fun r _ => K r) =
 (br (k == (5 : Int)) (K (.returned (.bool (i == (0 : Int))))) (br (decide (k ≥ (1 : Int))) (br (decide (k ≤ (5 : Int))) (br (Int.ofNat (bitsN f) == (0 : Int)) (br (k == (1 : Int)) (br (i != (0 : Int)) (K (.returned (.bool ((1 : Int) == i)))) (K (.returned (.bool ((0 : Int) == i))))) (br (k == (2 : Int)) (br (decide (Int.tmod i (65536 : Int) < (0 : Int))) (br (decide (IntKind.wrap .i64 (Int.tmod i (65536 : Int) + (65536 : Int)) ≥ (32768 : Int))) (K (.returned (.bool (IntKind.wrap .i64 (IntKind.wrap .i64 (Int.tmod i (65536 : Int) + (65536 : Int)) - (65536 : Int)) == i)))) (K (.returned (.bool (IntKind.wrap .i64 (Int.tmod i (65536 : Int) + (65536 : Int)) == i))))) (br (decide (Int.tmod i (65536 : Int) ≥ (32768 : Int))) (K (.returned (.bool (IntKind.wrap .i64 (Int.tmod i (65536 : Int) - (65536 : Int)) == i)))) (K (.returned (.bool (Int.tmod i (65536 : Int) == i)))))) (br (k == (3 : Int)) (br (decide (Int.tmod i (4294967296 : Int) < (0 : Int))) (br (decide (IntKind.wrap .i64 (Int.tmod i (4294967296 : Int) + (4294967296 : Int)) ≥ (2147483648 : Int))) (K (.returned (.bool (IntKind.wrap .i64 (IntKind.wrap .i64 (Int.tmod i (4294967296 : Int) + (4294967296 : Int)) - (4294967296 : Int)) == i)))) (K (.returned (.bool (IntKind.wrap .i64 (Int.tmod i (4294967296 : Int) + (4294967296 : Int)) == i))))) (br (decide (Int.tmod i (4294967296 : Int) ≥ (2147483648 : Int))) (K (.returned (.bool (IntKind.wrap .i64 (Int.tmod i (4294967296 : Int) - (4294967296 : Int)) == i)))) (K (.returned (.bool (Int.tmod i (4294967296 : Int) == i)))))) (br (k == (4 : Int)) (K (.returned (.bool (i == i)))) (K (.returned (.bool ((0 : Int) == i)))))))) (K (.returned (.bool false)))) (br (decide (k ≥ (6 : Int))) (br (decide (k ≤ (8 : Int))) (K (.returned (.bool false))) (br (k == (9 : Int)) (K (.returned (.bool false))) (br (k == (10 : Int)) (K (.returned (.bool false))) (br (k == (11 : Int)) (K (.returned (.bool false))) (br (k == (12 : Int)) (K (.returned (.bool false))) (K (.returned (.bool false)))))))) (br (k == (9 : Int)) (K (.returned (.bool false))) (br (k == (10 : Int)) (K (.returned (.bool false))) (br (k == (11 : Int)) (K (.returned (.bool false))) (br (k == (12 : Int)) (K (.returned (.bool false))) (K (.returned (.bool false))))))))) (br (decide (k ≥ (6 : Int))) (br (decide (k ≤ (8 : Int))) (K (.returned (.bool false))) (br (k == (9 : Int)) (K (.returned (.bool false))) (br (k == (10 : Int)) (K (.returned (.bool false))) (br (k == (11 : Int)) (K (.returned (.bool false))) (br (k == (12 : Int)) (K (.returned (.bool false))) (K (.returned (.bool false)))))))) (br (k == (9 : Int)) (K (.returned (.bool false))) (br (k == (10 : Int)) (K (.returned (.bool false))) (br (k == (11 : Int)) (K (.returned (.bool false))) (br (k == (12 : Int)) (K (.returned (.bool false))) (K (.returned (.bool false)))))))))) := by kernel_rfl
end Go.Proofs.Ytbkbimmelmoohaa.Ev
end
section
set_option maxRecDepth 100000
namespace Go.Proofs.Ytbkbimmelmoohaa.Ev
open Go Go.Proofs Go.RowKit
def valP (k i : Int) (f : Nat) : Prop := (k = 5 ∧ i = 0) ∨ (bitsN f = 0 ∧ ((k = 1 ∧ (i = 0 ∨ i = 1)) ∨ (k = 2 ∧ -32768 ≤ i ∧ i < 32768) ∨ (k = 3 ∧ -2147483648 ≤ i ∧ i < 2147483648) ∨ k = 4))
instance (k i : Int) (f : Nat) : Decidable (valP k i f) := by unfold valP; infer_instance
def valB (k i : Int) (f : Nat) : Bool := decide (valP k i f)
theorem bits0 (f : Nat) : (Int.ofNat (bitsN f) == (0 : Int)) = decide (bitsN f = 0) := by
 rw [Bool.eq_iff_iff]; simp
theorem bits0' (f : Nat) : (Int.ofNat (bitsN f) != (0 : Int)) = !decide (bitsN f = 0) := by
 rw [← bits0]; rfl
theorem w16 (i : Int) : (i == IntKind.wrap .i64 (IntKind.wrap .i16 i)) = (decide (-32768 ≤ i) && decide (i < 32768)) := by
 have h1 : -32768 ≤ IntKind.wrap .i16 i ∧ IntKind.wrap .i16 i < 32768 ∧ (-32768 ≤ i → i < 32768 → IntKind.wrap .i16 i = i) := by
  unfold IntKind.wrap
  simp only [IntKind.signed, IntKind.bits]
  have := Int.emod_nonneg i (show ((2 : Int) ^ 16) ≠ 0 by decide)
  have := Int.emod_lt_of_pos i (show (0 : Int) < 2 ^ 16 by decide)
  simp
  split <;> omega
 obtain ⟨a, b, c⟩ := h1
 rw [w64 (by omega) (by omega), Bool.eq_iff_iff]
 simp
 constructor
 ·intro h; omega
 ·intro h; exact (c h.1 h.2).symm
theorem w32 (i : Int) : (i == IntKind.wrap .i64 (IntKind.wrap .i32 i)) = (decide (-2147483648 ≤ i) && decide (i < 2147483648)) := by
 have h1 : -2147483648 ≤ IntKind.wrap .i32 i ∧ IntKind.wrap .i32 i < 2147483648 ∧ (-2147483648 ≤ i → i < 2147483648 → IntKind.wrap .i32 i = i) := by
  unfold IntKind.wrap
  simp only [IntKind.signed, IntKind.bits]
  have := Int.emod_nonneg i (show ((2 : Int) ^ 32) ≠ 0 by decide)
  have := Int.emod_lt_of_pos i (show (0 : Int) < 2 ^ 32 by decide)
  simp
  split <;> omega
 obtain ⟨a, b, c⟩ := h1
 rw [w64 (by omega) (by omega), Bool.eq_iff_iff]
 simp
 constructor
 ·intro h; omega
 ·intro h; exact (c h.1 h.2).symm
theorem ret_leaf {x : Bool} {p : Prop} [Decidable p] (h : x = true ↔ p) : AE.returned (.bool x) = AE.returned (.bool (decide p)) := by
 have : x = decide p := by rw [Bool.eq_iff_iff, decide_eq_true_eq]; exact h
 rw [this]
theorem tmod_ex (i n : Int) (hn : 0 < n) : ∃ q t : Int, Int.tmod i n = t ∧ i = n * q + t ∧ -n < t ∧ t < n ∧ (0 ≤ i → 0 ≤ t) ∧ (i ≤ 0 → t ≤ 0) := by
 refine ⟨Int.tdiv i n, Int.tmod i n, rfl, (Int.mul_tdiv_add_tmod i n).symm, ?_, ?_, fun h => Int.tmod_nonneg n h, fun h => ?_⟩
 ·have := Int.tmod_lt_of_pos (-i) hn
  rw [Int.neg_tmod] at this; omega
 ·exact Int.tmod_lt_of_pos i hn
 ·have := Int.tmod_nonneg n (show 0 ≤ -i by omega)
  rw [Int.neg_tmod] at this; omega
theorem val_main (k i : Int) (f : Nat) : funK Try.prog toldB1 100 20 32 [.agg (Array.mk [.int .i64 k, .int .i64 i, .float .f64 f])] st0 (fun r _ => r = .returned (.bool (valB k i f))) := by
 rw [vc_val k i f fun r => r = .returned (.bool (valB k i f))]
 simp only [w16, w32, bits0']
 unfold valB
 repeat' (with_reducible refine br_of (fun _ => ?_) (fun _ => ?_))
 all_goals (refine ret_leaf ?_; simp only [beq_iff_eq, beq_eq_false_iff_ne, decide_eq_true_eq, decide_eq_false_iff_not, Bool.and_eq_true, Bool.not_eq_true', Bool.not_eq_false', ne_eq, Bool.true_eq_false, Bool.false_eq_true, false_iff, true_iff] at *; unfold valP; omega)
theorem mval_main (k i : Int) (f : Nat) : funK Try.prog toldB1 100 20 43 [.agg (Array.mk [.int .i64 k, .int .i64 i, .float .f64 f])] st0 (fun r _ => r = .returned (.bool (valB k i f))) := by
 rw [vc_mval k i f fun r => r = .returned (.bool (valB k i f))]
 obtain ⟨q1, t1, e1, f1, f2, f3, f4, f5⟩ := tmod_ex i 65536 (by omega)
 obtain ⟨q2, t2, e2, g1, g2, g3, g4, g5⟩ := tmod_ex i 4294967296 (by omega)
 have W1 : IntKind.wrap .i64 (t1 + 65536) = t1 + 65536 := w64 (by omega) (by omega)
 have W2 : IntKind.wrap .i64 (t1 + 65536 - 65536) = t1 + 65536 - 65536 := w64 (by omega) (by omega)
 have W3 : IntKind.wrap .i64 (t1 - 65536) = t1 - 65536 := w64 (by omega) (by omega)
 have V1 : IntKind.wrap .i64 (t2 + 4294967296) = t2 + 4294967296 := w64 (by omega) (by omega)
 have V2 : IntKind.wrap .i64 (t2 + 4294967296 - 4294967296) = t2 + 4294967296 - 4294967296 := w64 (by omega) (by omega)
 have V3 : IntKind.wrap .i64 (t2 - 4294967296) = t2 - 4294967296 := w64 (by omega) (by omega)
 simp only [bits0, e1, e2, W1, W2, W3, V1, V2, V3]
 clear W1 W2 W3 V1 V2 V3 e1 e2
 unfold valB
 repeat' (with_reducible refine br_of (fun _ => ?_) (fun _ => ?_))
 all_goals (refine ret_leaf ?_; simp only [beq_iff_eq, beq_eq_false_iff_ne, bne_iff_ne, bne_eq_false_iff_eq, decide_eq_true_eq, decide_eq_false_iff_not, Bool.and_eq_true, Bool.not_eq_true', Bool.not_eq_false', ne_eq, Bool.true_eq_false, Bool.false_eq_true, false_iff, true_iff] at *; unfold valP; omega)
def valSpec : List Value → Option Value
 | [.agg vs] => match vs.toList with
  | [.int .i64 k, .int .i64 i, .float .f64 f] => some (.bool (valB k i f))
  | _ => none
 | _ => none
theorem val_okS {P : Program} {C C0 : Told} {g : FuncId} (hm : P.follows .mixedOrders = true) (hC : ToldS P C) (h0 : ToldS P C0) (h : ∀ k i f, funK P C0 100 20 g [.agg (Array.mk [.int .i64 k, .int .i64 i, .float .f64 f])] st0 (fun r _ => r = .returned (.bool (valB k i f)))) : ToldS P (C.also g valSpec) := by
 refine Told.also_ok hC ?_
 intro args v hv
 unfold valSpec at hv
 split at hv
 ·rename_i vs
  split at hv
  ·rename_i k i f e
   cases hv
   obtain ⟨vs⟩ := vs
   have e : vs = [.int .i64 k, .int .i64 i, .float .f64 f] := e
   subst e
   exact ⟨rfl, rfl, fun w args' ha => sym_is (fuel := 100) (n := 20) hm h0 (h k i f) w args' ha⟩
  ·cases hv
 ·cases hv
def toldB2 : Told := (toldB1.also 32 valSpec).also 43 valSpec
theorem toldB2_ok : ToldS Try.prog toldB2 := val_okS follows (val_okS follows toldB1_ok toldB1_ok val_main) toldB1_ok mval_main
end Go.Proofs.Ytbkbimmelmoohaa.Ev
end
