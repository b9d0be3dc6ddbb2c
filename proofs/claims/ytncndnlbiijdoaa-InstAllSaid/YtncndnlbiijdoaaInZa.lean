/-
  Functions of structs within structs of numbers and truths; functions that choose out of a table.
-/
import Derived.Test.YtncndnlbiijdoaaMlD
import Derived.Test.YtncndnlbiijdoaaEnM
import Derived.Test.YtncndnlbiijdoaaOut
set_option linter.unusedVariables false
/-! Functions of structs within structs of numbers and truths; functions that choose out of a table. -/
set_option linter.unusedVariables false
set_option linter.unusedSimpArgs false
namespace Go.Proofs.Ytncndnlbiijdoaa.Ev
open Go

def scalN : Nat → Value → Bool
  | 0, v => (match v with | .int .. | .bool _ | .float .. | .string _ => true | _ => false)
  | n + 1, .tuple vs => vs.toList.all (scalN n)
  | n + 1, .agg vs => vs.toList.all (scalN n)
  | n + 1, v => (match v with | .int .. | .bool _ | .float .. | .string _ => true | _ => false)
theorem VR.scalN {ρ ρ' : Rho} : ∀ (n : Nat) {v v' : Value}, scalN n v = true → VR ρ v v' → VR ρ' v v' := by
  intro n
  induction n with
  | zero => intro v v' hs h; exact VR.scal1 hs h
  | succ n ih =>
    intro v v' hs h
    cases h with
    | tuple a a' ha h =>
      refine .tuple a a' ha fun i x y hx hy => ?_
      simp only [Ev.scalN, List.all_eq_true] at hs
      exact ih (hs x (by simpa using Array.mem_of_getElem? hx)) (h i x y hx hy)
    | agg a a' ha h =>
      refine .agg a a' ha fun i x y hx hy => ?_
      simp only [Ev.scalN, List.all_eq_true] at hs
      exact ih (hs x (by simpa using Array.mem_of_getElem? hx)) (h i x y hx hy)
    | bool b => exact .bool b
    | int k n => exact .int k n
    | float k b => exact .float k b
    | nan k b b' h h' => exact .nan k b b' h h'
    | string s => exact .string s
    | any v => cases hs
    | _ => cases hs
theorem VRL.scalN {ρ ρ' : Rho} {l l' : List Value} {n : Nat} (hs : l.all (scalN n) = true) (h : VRL ρ l l') : VRL ρ' l l' :=
  ⟨h.1, fun i x y hx hy => VR.scalN n (by rw [List.all_eq_true] at hs; exact hs x (List.mem_of_getElem? hx)) (h.2 i x y hx hy)⟩
theorem Told.also_okN {P : Program} {C : Told} {g : FuncId} {spec : List Value → Option Value} (n : Nat) (hC : ToldS P C)
    (h : ∀ args v, spec args = some v → args.all (scalN n) = true ∧ scalN n v = true ∧ ∀ (w : World) (args' : Array Value), VRL (fun _ => none) args args'.toList → Calls P g args' w fun e w' => (∃ ρ' v', e = .returned v' ∧ VR ρ' v v') ∧ RowKit.Below w.heap.size w w') :
    ToldS P (C.also g spec) := by
  intro f c hc args st r st' hwf hr
  unfold Told.also at hc
  cases hb : Nat.beq f g with
  | false => rw [hb] at hc; exact hC f c hc args st r st' hwf hr
  | true =>
    rw [hb] at hc
    have := Nat.eq_of_beq_eq_true hb
    subst this
    simp only [cond_true, Option.some.injEq] at hc
    subst hc
    simp only at hr
    split at hr
    · rename_i v hv
      cases hr
      obtain ⟨h1, h2, h3⟩ := h args v hv
      refine ⟨LoS.refl _, fun ρ w args' ha hw hf => (h3 w args' (ha.scalN h1)).mono fun e w' he => ?_⟩
      obtain ⟨⟨ρ', v', rfl, hv'⟩, hb⟩ := he
      exact ⟨ρ, ⟨v', rfl, VR.scalN n h2 hv'⟩, Mv.below hw _ hb⟩
    · cases hr
/-! a function of a number, by its table -/
def tabF : List (Nat × Nat) → Nat → Option Nat
  | [], _ => none
  | (a, b) :: l, n => cond (Nat.beq n a) (some b) (tabF l n)
def tabK (ki ko : IntKind) (n : Nat) (st : ASt) (K : AE → ASt → Prop) : List (Nat × Nat) → Prop
  | [] => False
  | (a, b) :: l => br (Nat.beq n a) (K (.returned (.int ko (Int.ofNat b))) st) (tabK ki ko n st K l)
theorem tabK_ok {ki ko : IntKind} {n : Nat} {st : ASt} {K : AE → ASt → Prop} : ∀ {l : List (Nat × Nat)}, tabK ki ko n st K l → ∃ b, tabF l n = some b ∧ K (.returned (.int ko (Int.ofNat b))) st := by
  intro l
  induction l with
  | nil => intro h; exact h.elim
  | cons p l ih =>
    obtain ⟨a, b⟩ := p
    intro h
    rcases br_elim h with ⟨h1, h⟩ | ⟨h1, h⟩
    · exact ⟨b, by simp only [tabF, h1, cond_true], h⟩
    · obtain ⟨b', h2, h3⟩ := ih h
      exact ⟨b', by simp only [tabF, h1, cond_false, h2], h3⟩
def tabSpec (ki ko : IntKind) (l : List (Nat × Nat)) (args : List Value) : Option Value := match args with
  | [.int k n] => match decide (k = ki) && decide (0 ≤ n), tabF l n.toNat with
    | true, some b => some (.int ko (Int.ofNat b))
    | _, _ => none
  | _ => none
def Told.tab (C : Told) (g : FuncId) (ki ko : IntKind) (l : List (Nat × Nat)) : Told := fun f => cond (Nat.beq f g) (some ⟨fun args st => match tabSpec ki ko l args with
  | some v => .ok (.returned v, st)
  | none => .er "told", fun args st K => match args with
    | [.int k n] => need (decide (k = ki) && decide (0 ≤ n)) (tabK ki ko n.toNat st K l)
    | _ => False, fun args st K h => by
    split at h
    · rename_i k n
      obtain ⟨h1, h2⟩ := need_elim h
      obtain ⟨b, h3, h4⟩ := tabK_ok h2
      exact ⟨_, _, by simp only [tabSpec, h1, h3], h4⟩
    · exact h.elim⟩) (C f)
theorem Told.tab_ok {P : Program} {C : Told} {g : FuncId} {ki ko : IntKind} {l : List (Nat × Nat)} (hC : ToldS P C)
    (h : ∀ (n b : Nat), tabF l n = some b → ∀ (w : World) (args' : Array Value), VRL (fun _ => none) [.int ki (Int.ofNat n)] args'.toList → Calls P g args' w fun e w' => (∃ ρ' v', e = .returned v' ∧ VR ρ' (.int ko (Int.ofNat b)) v') ∧ RowKit.Below w.heap.size w w') :
    ToldS P (C.tab g ki ko l) := by
  have main : ToldS P (C.also g (tabSpec ki ko l)) := by
    refine Told.also_ok hC fun args v hv => ?_
    unfold tabSpec at hv
    split at hv
    · rename_i k n
      split at hv
      · rename_i b h1 h2
        cases hv
        simp only [Bool.and_eq_true, decide_eq_true_eq] at h1
        obtain ⟨rfl, h0⟩ := h1
        obtain ⟨m, rfl⟩ := Int.eq_ofNat_of_zero_le h0
        exact ⟨rfl, rfl, fun w args' ha => h m b (by simpa using h2) w args' ha⟩
      · cases hv
    · cases hv
  intro f c hc args st r st' hwf hr
  unfold Told.tab at hc
  cases hb : Nat.beq f g with
  | false => rw [hb] at hc; exact hC f c hc args st r st' hwf hr
  | true =>
    rw [hb] at hc
    simp only [cond_true, Option.some.injEq] at hc
    subst hc
    have h2 := main f ⟨_, _, _⟩ (show (C.also g (tabSpec ki ko l)) f = some _ from by unfold Told.also; rw [hb, cond_true])
    exact h2 args st r st' hwf hr
end Go.Proofs.Ytncndnlbiijdoaa.Ev

/-! Instructions as data that lie in cells. -/
set_option linter.unusedVariables false
set_option linter.unusedSimpArgs false
namespace Go.Proofs.Ytncndnlbiijdoaa.Ev
open Go Go.RowKit

structure In where
  op : Int
  kd : Int
  a : Int
  n : Int
  v : Vl
def inE (x : In) (j : Nat) : Td := match j with
  | 0 => .sc (.int .i64 x.op)
  | 1 => .sc (.int .i64 x.kd)
  | 2 => .sc (.int .i64 x.a)
  | 3 => .sc (.int .i64 x.n)
  | 4 => .sc (.int .i64 x.v.k)
  | 5 => .sc (.int .i64 x.v.i)
  | _ => .sc (.float .f64 x.v.f)
def fltD (t : Td) : Nat := match t with | .sc (.float .f64 f) => f | _ => 0
def fltOk (t : Td) : Bool := match t with | .sc (.float .f64 _) => true | _ => false
theorem fltOk_inv {t : Td} (h : fltOk t = true) : t = .sc (.float .f64 (fltD t)) := by
  unfold fltOk at h
  split at h
  · rfl
  · cases h
def inD (c : Nat → Td) : In := ⟨intD (c 0), intD (c 1), intD (c 2), intD (c 3), ⟨intD (c 4), intD (c 5), fltD (c 6)⟩⟩
/-- is a value one of its width? -/
def inFit (x : In) : Bool := decide (x.v.f < 18446744073709551616) && decide (-9223372036854775808 ≤ x.v.i) && decide (x.v.i < 9223372036854775808)
def inOk (c : Nat → Td) : Bool := intOk (c 0) && intOk (c 1) && intOk (c 2) && intOk (c 3) && intOk (c 4) && intOk (c 5) && fltOk (c 6) && inFit (inD c)
instance encIn : Enc In where
  es := 7
  enc := inE
  dec := inD
  ok := inOk
  dflt := ⟨0, 0, 0, 0, ⟨0, 0, 0⟩⟩
  good c := inOk c = true
  okgood c h := h
  law c h w F j y hj ht := by
    unfold inOk at h
    simp only [Bool.and_eq_true] at h
    obtain ⟨⟨⟨⟨⟨⟨⟨h0, h1⟩, h2⟩, h3⟩, h4⟩, h5⟩, h6⟩, h7⟩ := h
    match j, hj with
    | 0, _ => rw [intOk_inv h0] at ht; exact ht
    | 1, _ => rw [intOk_inv h1] at ht; exact ht
    | 2, _ => rw [intOk_inv h2] at ht; exact ht
    | 3, _ => rw [intOk_inv h3] at ht; exact ht
    | 4, _ => rw [intOk_inv h4] at ht; exact ht
    | 5, _ => rw [intOk_inv h5] at ht; exact ht
    | 6, _ => rw [fltOk_inv h6] at ht; exact ht
  back a := rfl
  mrg a b w F j y hj := match j, hj with
    | 0, _ => ⟨fun h => h, fun h => h⟩
    | 1, _ => ⟨fun h => h, fun h => h⟩
    | 2, _ => ⟨fun h => h, fun h => h⟩
    | 3, _ => ⟨fun h => h, fun h => h⟩
    | 4, _ => ⟨fun h => h, fun h => h⟩
    | 5, _ => ⟨fun h => h, fun h => h⟩
    | 6, _ => ⟨fun h => h, fun h => h⟩
instance : EncM In where
  cong c c' h := by
    have h0 : c 0 = c' 0 := h 0 (by show 0 < 7; omega)
    have h1 : c 1 = c' 1 := h 1 (by show 1 < 7; omega)
    have h2 : c 2 = c' 2 := h 2 (by show 2 < 7; omega)
    have h3 : c 3 = c' 3 := h 3 (by show 3 < 7; omega)
    have h4 : c 4 = c' 4 := h 4 (by show 4 < 7; omega)
    have h5 : c 5 = c' 5 := h 5 (by show 5 < 7; omega)
    have h6 : c 6 = c' 6 := h 6 (by show 6 < 7; omega)
    have hd : inD c = inD c' := by unfold inD; rw [h0, h1, h2, h3, h4, h5, h6]
    exact ⟨hd, by show inOk c = inOk c'; unfold inOk; rw [h0, h1, h2, h3, h4, h5, h6, hd]⟩
  mt a b := ⟨rfl, rfl⟩
  mf a b := ⟨rfl, rfl⟩
theorem okA_in (x : In) : okA In x = inFit x := rfl
def shIn (j : Nat) : Sh := match j with
  | 0 => .int .i64
  | 1 => .int .i64
  | 2 => .int .i64
  | 3 => .int .i64
  | 4 => .int .i64
  | 5 => .int .i64
  | _ => .flt .f64
theorem sh_intB {t : Td} (h : ShOk (.int .i64) t) : ∃ n, t = .sc (.int .i64 n) ∧ -9223372036854775808 ≤ n ∧ n < 9223372036854775808 := by
  cases t with
  | fr => exact h.elim
  | sc x =>
    cases x with
    | int k n =>
      obtain ⟨rfl, h⟩ := h
      refine ⟨n, rfl, ?_⟩
      simp [Lit.wf, IntKind.min, IntKind.max, IntKind.signed, IntKind.bits] at h
      omega
    | _ => exact h.elim
theorem inFit_iff (x : In) : inFit x = true ↔ x.v.f < 18446744073709551616 ∧ -9223372036854775808 ≤ x.v.i ∧ x.v.i < 9223372036854775808 := by
  unfold inFit
  simp only [Bool.and_eq_true, decide_eq_true_eq]
  exact ⟨fun h => ⟨h.1.1, h.1.2, h.2⟩, fun h => ⟨⟨h.1, h.2.1⟩, h.2.2⟩⟩
theorem sh_fltB {t : Td} (h : ShOk (.flt .f64) t) : ∃ n, t = .sc (.float .f64 n) ∧ n < 18446744073709551616 := by
  cases t with
  | fr => exact h.elim
  | sc x =>
    cases x with
    | float k n => obtain ⟨rfl, h⟩ := h; exact ⟨n, rfl, by simpa [Lit.wf] using h⟩
    | _ => exact h.elim
theorem goodIn (c : Nat → Td) (h : ∀ j, j < 7 → ShOk (shIn j) (c j)) : Enc.good In c := by
  obtain ⟨n0, h0⟩ := sh_int (h 0 (by omega))
  obtain ⟨n1, h1⟩ := sh_int (h 1 (by omega))
  obtain ⟨n2, h2⟩ := sh_int (h 2 (by omega))
  obtain ⟨n3, h3⟩ := sh_int (h 3 (by omega))
  obtain ⟨n4, h4⟩ := sh_int (h 4 (by omega))
  obtain ⟨n5, h5, hb5⟩ := sh_intB (h 5 (by omega))
  obtain ⟨f, hf, hb⟩ := sh_fltB (h 6 (by omega))
  show inOk c = true
  unfold inOk inFit inD
  rw [h0, h1, h2, h3, h4, h5, hf]
  show (true && true && true && true && true && true && true && (decide (f < _) && decide (_ ≤ n5) && decide (n5 < _))) = true
  rw [decide_eq_true hb, decide_eq_true hb5.1, decide_eq_true hb5.2]; rfl
theorem goodIn_all {t : Td} (h : goodT In t) : (listT In t).all (okA In) = true := by
  rw [List.all_eq_true]
  refine goodT_all (p := fun b => okA In b = true) (fun c hc => ?_) h
  have hc : inOk c = true := hc
  unfold inOk at hc
  rw [Bool.and_eq_true] at hc
  exact hc.2
end Go.Proofs.Ytncndnlbiijdoaa.Ev

/-! real.Bits: told to the evaluator. -/
set_option linter.unusedVariables false
namespace Go.Proofs.Ytncndnlbiijdoaa.Ev
open Go

set_option maxRecDepth 1000000
theorem vc_rbits1 (a : Nat) (K : AE → ASt → Prop) : funK Try.prog noTold 100 20 38 [.float .f64 a] st0 K =
    br (Ieee.double.order a a != some .eq) (K (.returned (.int .u64 (Int.ofNat 9221120237041090561))) st0) (need (!nanB .f64 a) (K (.returned (.int .u64 (Int.ofNat a))) st0)) := by kernel_rfl
def toldB1 : Told := toldA.also 38 bitsSpec
theorem toldB1_ok : ToldS Try.prog toldB1 := by
  refine Told.also_ok toldA_ok ?_
  intro args v hv
  unfold bitsSpec at hv
  split at hv
  · rename_i a
    cases hv
    refine ⟨rfl, rfl, fun w args' ha => ?_⟩
    refine sym_is (fuel := 100) (n := 20) follows (noTold_ok _) ?_ w args' ha
    rw [vc_rbits1]; exact bits_main a
  · cases hv
/-- where choices end alike -/
theorem br_val {α : Type} (c : Bool) (K : α → Prop) (x y : α) : br c (K x) (K y) = K (cond c x y) := by cases c <;> rfl
theorem need_val (c : Bool) (A : Prop) (h : c = true) : need c A = A := by rw [h]; rfl
end Go.Proofs.Ytncndnlbiijdoaa.Ev

/-! What has to hold: printed by the evaluator. -/
set_option linter.unusedVariables false
set_option maxRecDepth 1000000
namespace Go.Proofs.Ytncndnlbiijdoaa.Ev
open Go Go.Proofs
theorem vc_val (k i : Int) (f : Nat) (K : AE → Prop) : funK Try.prog toldB1 100 20 15 [.agg (Array.mk [.int .i64 k, .int .i64 i, .float .f64 f])] st0 (fun r _ => K r) =
(  br (k == (5 : Int)) (K (AE.returned (Value.bool (i == (0 : Int)))))
  (br (Int.ofNat (bitsN f) != (0 : Int)) (K (AE.returned (Value.bool false)))
  (br (k == (1 : Int))
  (br (i == (0 : Int)) (K (AE.returned (Value.bool true))) (K (AE.returned (Value.bool (i == (1 : Int))))))
  (br (k == (2 : Int)) (K (AE.returned (Value.bool (i == IntKind.wrap IntKind.i64 (IntKind.wrap IntKind.i16 i)))))
  (br (k == (3 : Int)) (K (AE.returned (Value.bool (i == IntKind.wrap IntKind.i64 (IntKind.wrap IntKind.i32 i)))))
  (K (AE.returned (Value.bool (k == (4 : Int)))))))))) := by kernel_rfl
theorem vc_mval (k i : Int) (f : Nat) (K : AE → Prop) : funK Try.prog toldB1 100 20 23 [.agg (Array.mk [.int .i64 k, .int .i64 i, .float .f64 f])] st0 (fun r _ => K r) =
(  br (k == (5 : Int)) (K (AE.returned (Value.bool (i == (0 : Int)))))
  (br (decide (k ≥ (1 : Int)))
  (br (decide (k ≤ (5 : Int)))
  (br (Int.ofNat (bitsN f) == (0 : Int))
  (br (k == (1 : Int))
  (br (i != (0 : Int)) (K (AE.returned (Value.bool ((1 : Int) == i))))
  (K (AE.returned (Value.bool ((0 : Int) == i)))))
  (br (k == (2 : Int))
  (br (decide (Int.tmod i (65536 : Int) < (0 : Int)))
  (br (decide (IntKind.wrap IntKind.i64 (Int.tmod i (65536 : Int) + (65536 : Int)) ≥ (32768 : Int)))
  (K
  (AE.returned
  (Value.bool
  (IntKind.wrap IntKind.i64
  (IntKind.wrap IntKind.i64 (Int.tmod i (65536 : Int) + (65536 : Int)) - (65536 : Int)) ==
  i))))
  (K
  (AE.returned
  (Value.bool (IntKind.wrap IntKind.i64 (Int.tmod i (65536 : Int) + (65536 : Int)) == i)))))
  (br (decide (Int.tmod i (65536 : Int) ≥ (32768 : Int)))
  (K
  (AE.returned (Value.bool (IntKind.wrap IntKind.i64 (Int.tmod i (65536 : Int) - (65536 : Int)) == i))))
  (K (AE.returned (Value.bool (Int.tmod i (65536 : Int) == i))))))
  (br (k == (3 : Int))
  (br (decide (Int.tmod i (4294967296 : Int) < (0 : Int)))
  (br
  (decide
  (IntKind.wrap IntKind.i64 (Int.tmod i (4294967296 : Int) + (4294967296 : Int)) ≥
  (2147483648 : Int)))
  (K
  (AE.returned
  (Value.bool
  (IntKind.wrap IntKind.i64
  (IntKind.wrap IntKind.i64 (Int.tmod i (4294967296 : Int) + (4294967296 : Int)) -
  (4294967296 : Int)) ==
  i))))
  (K
  (AE.returned
  (Value.bool
  (IntKind.wrap IntKind.i64 (Int.tmod i (4294967296 : Int) + (4294967296 : Int)) == i)))))
  (br (decide (Int.tmod i (4294967296 : Int) ≥ (2147483648 : Int)))
  (K
  (AE.returned
  (Value.bool
  (IntKind.wrap IntKind.i64 (Int.tmod i (4294967296 : Int) - (4294967296 : Int)) == i))))
  (K (AE.returned (Value.bool (Int.tmod i (4294967296 : Int) == i))))))
  (br (k == (4 : Int)) (K (AE.returned (Value.bool (i == i))))
  (K (AE.returned (Value.bool ((0 : Int) == i))))))))
  (K (AE.returned (Value.bool false))))
  (br (decide (k ≥ (6 : Int)))
  (br (decide (k ≤ (8 : Int))) (K (AE.returned (Value.bool false)))
  (br (k == (9 : Int)) (K (AE.returned (Value.bool false)))
  (br (k == (10 : Int)) (K (AE.returned (Value.bool false)))
  (br (k == (11 : Int)) (K (AE.returned (Value.bool false)))
  (br (k == (12 : Int)) (K (AE.returned (Value.bool false))) (K (AE.returned (Value.bool false))))))))
  (br (k == (9 : Int)) (K (AE.returned (Value.bool false)))
  (br (k == (10 : Int)) (K (AE.returned (Value.bool false)))
  (br (k == (11 : Int)) (K (AE.returned (Value.bool false)))
  (br (k == (12 : Int)) (K (AE.returned (Value.bool false))) (K (AE.returned (Value.bool false)))))))))
  (br (decide (k ≥ (6 : Int)))
  (br (decide (k ≤ (8 : Int))) (K (AE.returned (Value.bool false)))
  (br (k == (9 : Int)) (K (AE.returned (Value.bool false)))
  (br (k == (10 : Int)) (K (AE.returned (Value.bool false)))
  (br (k == (11 : Int)) (K (AE.returned (Value.bool false)))
  (br (k == (12 : Int)) (K (AE.returned (Value.bool false))) (K (AE.returned (Value.bool false))))))))
  (br (k == (9 : Int)) (K (AE.returned (Value.bool false)))
  (br (k == (10 : Int)) (K (AE.returned (Value.bool false)))
  (br (k == (11 : Int)) (K (AE.returned (Value.bool false)))
  (br (k == (12 : Int)) (K (AE.returned (Value.bool false))) (K (AE.returned (Value.bool false)))))))))) := by kernel_rfl
end Go.Proofs.Ytncndnlbiijdoaa.Ev

/-! inst.value, ref1.MayVal: told to the evaluator. -/
set_option linter.unusedVariables false
set_option linter.unusedSimpArgs false
set_option maxRecDepth 100000
namespace Go.Proofs.Ytncndnlbiijdoaa.Ev
open Go Go.Proofs Go.RowKit

/-- may a value be? -/
def valP (k i : Int) (f : Nat) : Prop := (k = 5 ∧ i = 0) ∨ (bitsN f = 0 ∧ ((k = 1 ∧ (i = 0 ∨ i = 1)) ∨ (k = 2 ∧ -32768 ≤ i ∧ i < 32768) ∨ (k = 3 ∧ -2147483648 ≤ i ∧ i < 2147483648) ∨ k = 4))
instance (k i : Int) (f : Nat) : Decidable (valP k i f) := by unfold valP; infer_instance
def valB (k i : Int) (f : Nat) : Bool := decide (valP k i f)
theorem bits0 (f : Nat) : (Int.ofNat (bitsN f) == (0 : Int)) = decide (bitsN f = 0) := by
  rw [Bool.eq_iff_iff]; simp
theorem bits0' (f : Nat) : (Int.ofNat (bitsN f) != (0 : Int)) = !decide (bitsN f = 0) := by
  rw [← bits0]; rfl
theorem w16 (i : Int) : (i == IntKind.wrap .i64 (IntKind.wrap .i16 i)) = (decide (-32768 ≤ i) && decide (i < 32768)) := by
  have h1 : -32768 ≤ IntKind.wrap .i16 i ∧ IntKind.wrap .i16 i < 32768 ∧ (-32768 ≤ i → i < 32768 → IntKind.wrap .i16 i = i) := by
    unfold IntKind.wrap
    simp only [IntKind.signed, IntKind.bits]
    have := Int.emod_nonneg i (show ((2 : Int) ^ 16) ≠ 0 by decide)
    have := Int.emod_lt_of_pos i (show (0 : Int) < 2 ^ 16 by decide)
    simp
    split <;> omega
  obtain ⟨a, b, c⟩ := h1
  rw [w64 (by omega) (by omega), Bool.eq_iff_iff]
  simp
  constructor
  · intro h; omega
  · intro h; exact (c h.1 h.2).symm
theorem w32 (i : Int) : (i == IntKind.wrap .i64 (IntKind.wrap .i32 i)) = (decide (-2147483648 ≤ i) && decide (i < 2147483648)) := by
  have h1 : -2147483648 ≤ IntKind.wrap .i32 i ∧ IntKind.wrap .i32 i < 2147483648 ∧ (-2147483648 ≤ i → i < 2147483648 → IntKind.wrap .i32 i = i) := by
    unfold IntKind.wrap
    simp only [IntKind.signed, IntKind.bits]
    have := Int.emod_nonneg i (show ((2 : Int) ^ 32) ≠ 0 by decide)
    have := Int.emod_lt_of_pos i (show (0 : Int) < 2 ^ 32 by decide)
    simp
    split <;> omega
  obtain ⟨a, b, c⟩ := h1
  rw [w64 (by omega) (by omega), Bool.eq_iff_iff]
  simp
  constructor
  · intro h; omega
  · intro h; exact (c h.1 h.2).symm
theorem ret_leaf {x : Bool} {p : Prop} [Decidable p] (h : x = true ↔ p) : AE.returned (.bool x) = AE.returned (.bool (decide p)) := by
  have : x = decide p := by rw [Bool.eq_iff_iff, decide_eq_true_eq]; exact h
  rw [this]
theorem tmod_ex (i n : Int) (hn : 0 < n) : ∃ q t : Int, Int.tmod i n = t ∧ i = n * q + t ∧ -n < t ∧ t < n ∧ (0 ≤ i → 0 ≤ t) ∧ (i ≤ 0 → t ≤ 0) := by
  refine ⟨Int.tdiv i n, Int.tmod i n, rfl, (Int.mul_tdiv_add_tmod i n).symm, ?_, ?_, fun h => Int.tmod_nonneg n h, fun h => ?_⟩
  · have := Int.tmod_lt_of_pos (-i) hn
    rw [Int.neg_tmod] at this; omega
  · exact Int.tmod_lt_of_pos i hn
  · have := Int.tmod_nonneg n (show 0 ≤ -i by omega)
    rw [Int.neg_tmod] at this; omega
theorem val_main (k i : Int) (f : Nat) : funK Try.prog toldB1 100 20 15 [.agg (Array.mk [.int .i64 k, .int .i64 i, .float .f64 f])] st0 (fun r _ => r = .returned (.bool (valB k i f))) := by
  rw [vc_val k i f fun r => r = .returned (.bool (valB k i f))]
  simp only [w16, w32, bits0']
  unfold valB
  repeat' (with_reducible refine br_of (fun _ => ?_) (fun _ => ?_))
  all_goals (refine ret_leaf ?_; simp only [beq_iff_eq, beq_eq_false_iff_ne, decide_eq_true_eq, decide_eq_false_iff_not, Bool.and_eq_true, Bool.not_eq_true', Bool.not_eq_false', ne_eq, Bool.true_eq_false, Bool.false_eq_true, false_iff, true_iff] at *; unfold valP; omega)
theorem mval_main (k i : Int) (f : Nat) : funK Try.prog toldB1 100 20 23 [.agg (Array.mk [.int .i64 k, .int .i64 i, .float .f64 f])] st0 (fun r _ => r = .returned (.bool (valB k i f))) := by
  rw [vc_mval k i f fun r => r = .returned (.bool (valB k i f))]
  obtain ⟨q1, t1, e1, f1, f2, f3, f4, f5⟩ := tmod_ex i 65536 (by omega)
  obtain ⟨q2, t2, e2, g1, g2, g3, g4, g5⟩ := tmod_ex i 4294967296 (by omega)
  have W1 : IntKind.wrap .i64 (t1 + 65536) = t1 + 65536 := w64 (by omega) (by omega)
  have W2 : IntKind.wrap .i64 (t1 + 65536 - 65536) = t1 + 65536 - 65536 := w64 (by omega) (by omega)
  have W3 : IntKind.wrap .i64 (t1 - 65536) = t1 - 65536 := w64 (by omega) (by omega)
  have V1 : IntKind.wrap .i64 (t2 + 4294967296) = t2 + 4294967296 := w64 (by omega) (by omega)
  have V2 : IntKind.wrap .i64 (t2 + 4294967296 - 4294967296) = t2 + 4294967296 - 4294967296 := w64 (by omega) (by omega)
  have V3 : IntKind.wrap .i64 (t2 - 4294967296) = t2 - 4294967296 := w64 (by omega) (by omega)
  simp only [bits0, e1, e2, W1, W2, W3, V1, V2, V3]
  clear W1 W2 W3 V1 V2 V3 e1 e2
  unfold valB
  repeat' (with_reducible refine br_of (fun _ => ?_) (fun _ => ?_))
  all_goals (refine ret_leaf ?_; simp only [beq_iff_eq, beq_eq_false_iff_ne, bne_iff_ne, bne_eq_false_iff_eq, decide_eq_true_eq, decide_eq_false_iff_not, Bool.and_eq_true, Bool.not_eq_true', Bool.not_eq_false', ne_eq, Bool.true_eq_false, Bool.false_eq_true, false_iff, true_iff] at *; unfold valP; omega)
def valSpec : List Value → Option Value
  | [.agg vs] => match vs.toList with
    | [.int .i64 k, .int .i64 i, .float .f64 f] => some (.bool (valB k i f))
    | _ => none
  | _ => none
theorem val_okS {P : Program} {C C0 : Told} {g : FuncId} (hm : P.follows .mixedOrders = true) (hC : ToldS P C) (h0 : ToldS P C0) (h : ∀ k i f, funK P C0 100 20 g [.agg (Array.mk [.int .i64 k, .int .i64 i, .float .f64 f])] st0 (fun r _ => r = .returned (.bool (valB k i f)))) : ToldS P (C.also g valSpec) := by
  refine Told.also_ok hC ?_
  intro args v hv
  unfold valSpec at hv
  split at hv
  · rename_i vs
    split at hv
    · rename_i k i f e
      cases hv
      obtain ⟨vs⟩ := vs
      have e : vs = [.int .i64 k, .int .i64 i, .float .f64 f] := e
      subst e
      exact ⟨rfl, rfl, fun w args' ha => sym_is (fuel := 100) (n := 20) hm h0 (h k i f) w args' ha⟩
    · cases hv
  · cases hv
def toldB2 : Told := (toldB1.also 15 valSpec).also 23 valSpec
theorem toldB2_ok : ToldS Try.prog toldB2 := val_okS follows (val_okS follows toldB1_ok toldB1_ok val_main) toldB1_ok mval_main
end Go.Proofs.Ytncndnlbiijdoaa.Ev

/-! What has to hold: printed by the evaluator. -/
set_option linter.unusedVariables false
set_option maxRecDepth 1000000
namespace Go.Proofs.Ytncndnlbiijdoaa.Ev
open Go Go.Proofs
def argI (op kd a n vk vi : Int) (vf : Nat) : Value := .agg (Array.mk [.int .i64 op, .int .i64 kd, .int .i64 a, .int .i64 n, .int .i64 vk, .int .i64 vi, .float .f64 vf])
theorem vc_may (op kd a n vk vi : Int) (vf : Nat) (K : AE → Prop) : funK Try.prog toldB2 100 20 8 [.agg (Array.mk [.int .i64 op, .int .i64 kd, .int .i64 a, .int .i64 n, .int .i64 vk, .int .i64 vi, .float .f64 vf])] st0 (fun r _ => K r) =
(  br (op == (1 : Int))
  (br (a == (0 : Int))
  (br (n == (0 : Int))
  (br (kd == vk) (K (AE.returned (Value.bool (valB vk vi vf)))) (K (AE.returned (Value.bool false))))
  (K (AE.returned (Value.bool false))))
  (K (AE.returned (Value.bool false))))
  (br (vk == (0 : Int))
  (br (vi == (0 : Int))
  (br (!Int.ofNat (bitsN vf) == (0 : Int)) (K (AE.returned (Value.bool false)))
  (br (op == (2 : Int))
  (br (kd == (0 : Int))
  (br (n == (0 : Int))
  (br (decide (a ≥ (0 : Int))) (K (AE.returned (Value.bool (decide (a ≤ (63 : Int))))))
  (K (AE.returned (Value.bool false))))
  (K (AE.returned (Value.bool false))))
  (K (AE.returned (Value.bool false))))
  (br (op == (18 : Int))
  (br (kd == (0 : Int))
  (br (n == (0 : Int))
  (br (decide (a ≥ (0 : Int))) (K (AE.returned (Value.bool (decide (a ≤ (63 : Int))))))
  (K (AE.returned (Value.bool false))))
  (K (AE.returned (Value.bool false))))
  (K (AE.returned (Value.bool false))))
  (br (op == (3 : Int))
  (br (kd == (0 : Int))
  (br (decide (a ≥ (0 : Int)))
  (br (decide (a ≤ (63 : Int)))
  (br (decide (n ≥ (1 : Int))) (K (AE.returned (Value.bool (decide (n ≤ (8 : Int))))))
  (K (AE.returned (Value.bool false))))
  (K (AE.returned (Value.bool false))))
  (K (AE.returned (Value.bool false))))
  (K (AE.returned (Value.bool false))))
  (br (op == (19 : Int))
  (br (kd == (0 : Int))
  (br (decide (a ≥ (0 : Int)))
  (br (decide (a ≤ (63 : Int)))
  (br (decide (n ≥ (1 : Int))) (K (AE.returned (Value.bool (decide (n ≤ (8 : Int))))))
  (K (AE.returned (Value.bool false))))
  (K (AE.returned (Value.bool false))))
  (K (AE.returned (Value.bool false))))
  (K (AE.returned (Value.bool false))))
  (br (op == (20 : Int))
  (br (kd == (0 : Int))
  (br (n == (0 : Int))
  (br (decide (a ≥ (0 : Int))) (K (AE.returned (Value.bool (decide (a ≤ (399 : Int))))))
  (K (AE.returned (Value.bool false))))
  (K (AE.returned (Value.bool false))))
  (K (AE.returned (Value.bool false))))
  (br (op == (21 : Int))
  (br (kd == (0 : Int))
  (br (n == (0 : Int))
  (br (decide (a ≥ (0 : Int))) (K (AE.returned (Value.bool (decide (a ≤ (399 : Int))))))
  (K (AE.returned (Value.bool false))))
  (K (AE.returned (Value.bool false))))
  (K (AE.returned (Value.bool false))))
  (br (op == (22 : Int))
  (br (decide (kd ≥ (6 : Int)))
  (br (decide (kd ≤ (12 : Int)))
  (br (decide (a ≥ (0 : Int)))
  (br (decide (a ≤ (63 : Int)))
  (br (kd == (11 : Int)) (K (AE.returned (Value.bool (n == (1 : Int)))))
  (br (kd == (12 : Int)) (K (AE.returned (Value.bool (n == (1 : Int)))))
  (K (AE.returned (Value.bool (n == (2 : Int)))))))
  (K (AE.returned (Value.bool false))))
  (K (AE.returned (Value.bool false))))
  (K (AE.returned (Value.bool false))))
  (K (AE.returned (Value.bool false))))
  (br (op == (23 : Int))
  (br (kd == (0 : Int))
  (br (a == (0 : Int)) (K (AE.returned (Value.bool (n == (0 : Int)))))
  (K (AE.returned (Value.bool false))))
  (K (AE.returned (Value.bool false))))
  (br (op == (17 : Int))
  (br (a == (0 : Int))
  (br (decide (kd ≥ (2 : Int)))
  (br (decide (kd ≤ (5 : Int)))
  (br (decide (n ≥ (2 : Int))) (K (AE.returned (Value.bool (decide (n ≤ (5 : Int))))))
  (K (AE.returned (Value.bool false))))
  (K (AE.returned (Value.bool false))))
  (K (AE.returned (Value.bool false))))
  (K (AE.returned (Value.bool false))))
  (br (op == (9 : Int))
  (br (decide (op ≥ (4 : Int)))
  (br (decide (op ≤ (16 : Int)))
  (br (a == (0 : Int))
  (br (n == (0 : Int))
  (br (decide (kd ≥ (1 : Int)))
  (K (AE.returned (Value.bool (decide (kd ≤ (5 : Int))))))
  (K (AE.returned (Value.bool false))))
  (K (AE.returned (Value.bool false))))
  (K (AE.returned (Value.bool false))))
  (K (AE.returned (Value.bool false))))
  (K (AE.returned (Value.bool false))))
  (br (op == (10 : Int))
  (br (decide (op ≥ (4 : Int)))
  (br (decide (op ≤ (16 : Int)))
  (br (a == (0 : Int))
  (br (n == (0 : Int))
  (br (decide (kd ≥ (1 : Int)))
  (K (AE.returned (Value.bool (decide (kd ≤ (5 : Int))))))
  (K (AE.returned (Value.bool false))))
  (K (AE.returned (Value.bool false))))
  (K (AE.returned (Value.bool false))))
  (K (AE.returned (Value.bool false))))
  (K (AE.returned (Value.bool false))))
  (br (op == (13 : Int))
  (br (decide (op ≥ (4 : Int)))
  (br (decide (op ≤ (16 : Int)))
  (br (a == (0 : Int))
  (br (n == (0 : Int))
  (br (decide (kd ≥ (1 : Int)))
  (K (AE.returned (Value.bool (decide (kd ≤ (1 : Int))))))
  (K (AE.returned (Value.bool false))))
  (K (AE.returned (Value.bool false))))
  (K (AE.returned (Value.bool false))))
  (K (AE.returned (Value.bool false))))
  (K (AE.returned (Value.bool false))))
  (br (op == (14 : Int))
  (br (decide (op ≥ (4 : Int)))
  (br (decide (op ≤ (16 : Int)))
  (br (a == (0 : Int))
  (br (n == (0 : Int))
  (br (decide (kd ≥ (1 : Int)))
  (K (AE.returned (Value.bool (decide (kd ≤ (1 : Int))))))
  (K (AE.returned (Value.bool false))))
  (K (AE.returned (Value.bool false))))
  (K (AE.returned (Value.bool false))))
  (K (AE.returned (Value.bool false))))
  (K (AE.returned (Value.bool false))))
  (br (op == (15 : Int))
  (br (decide (op ≥ (4 : Int)))
  (br (decide (op ≤ (16 : Int)))
  (br (a == (0 : Int))
  (br (n == (0 : Int))
  (br (decide (kd ≥ (1 : Int)))
  (K (AE.returned (Value.bool (decide (kd ≤ (1 : Int))))))
  (K (AE.returned (Value.bool false))))
  (K (AE.returned (Value.bool false))))
  (K (AE.returned (Value.bool false))))
  (K (AE.returned (Value.bool false))))
  (K (AE.returned (Value.bool false))))
  (br (op == (8 : Int))
  (br (decide (op ≥ (4 : Int)))
  (br (decide (op ≤ (16 : Int)))
  (br (a == (0 : Int))
  (br (n == (0 : Int))
  (br (decide (kd ≥ (2 : Int)))
  (K (AE.returned (Value.bool (decide (kd ≤ (4 : Int))))))
  (K (AE.returned (Value.bool false))))
  (K (AE.returned (Value.bool false))))
  (K (AE.returned (Value.bool false))))
  (K (AE.returned (Value.bool false))))
  (K (AE.returned (Value.bool false))))
  (br (decide (op ≥ (4 : Int)))
  (br (decide (op ≤ (16 : Int)))
  (br (a == (0 : Int))
  (br (n == (0 : Int))
  (br (decide (kd ≥ (2 : Int)))
  (K (AE.returned (Value.bool (decide (kd ≤ (5 : Int))))))
  (K (AE.returned (Value.bool false))))
  (K (AE.returned (Value.bool false))))
  (K (AE.returned (Value.bool false))))
  (K (AE.returned (Value.bool false))))
  (K (AE.returned (Value.bool false))))))))))))))))))))
  (K (AE.returned (Value.bool false))))
  (K (AE.returned (Value.bool false))))) := by kernel_rfl
theorem vc_mayr (op kd a n vk vi : Int) (vf : Nat) (K : AE → Prop) : funK Try.prog toldB2 100 20 9 [.agg (Array.mk [.int .i64 op, .int .i64 kd, .int .i64 a, .int .i64 n, .int .i64 vk, .int .i64 vi, .float .f64 vf])] st0 (fun r _ => K r) =
(  br (op != (1 : Int))
  (br (vk != (0 : Int)) (K (AE.returned (Value.bool false)))
  (br (vi != (0 : Int)) (K (AE.returned (Value.bool false)))
  (br (Int.ofNat (bitsN vf) != (0 : Int)) (K (AE.returned (Value.bool false)))
  (br (decide (a ≥ (0 : Int)))
  (br (kd == (0 : Int))
  (br (op == (1 : Int))
  (br (valB vk vi vf)
  (br (kd == vk)
  (br (a == (0 : Int)) (K (AE.returned (Value.bool (n == (0 : Int)))))
  (K (AE.returned (Value.bool false))))
  (K (AE.returned (Value.bool false))))
  (K (AE.returned (Value.bool false))))
  (br (op == (2 : Int))
  (br (decide (a < (64 : Int))) (K (AE.returned (Value.bool (n == (0 : Int)))))
  (K (AE.returned (Value.bool false))))
  (br (op == (18 : Int))
  (br (decide (a < (64 : Int))) (K (AE.returned (Value.bool (n == (0 : Int)))))
  (K (AE.returned (Value.bool false))))
  (br (op == (3 : Int))
  (br (decide (a < (64 : Int)))
  (br (kd == (0 : Int))
  (br (decide (n ≥ (1 : Int))) (K (AE.returned (Value.bool (decide (n ≤ (8 : Int))))))
  (K (AE.returned (Value.bool false))))
  (K (AE.returned (Value.bool false))))
  (K (AE.returned (Value.bool false))))
  (br (op == (19 : Int))
  (br (decide (a < (64 : Int)))
  (br (kd == (0 : Int))
  (br (decide (n ≥ (1 : Int))) (K (AE.returned (Value.bool (decide (n ≤ (8 : Int))))))
  (K (AE.returned (Value.bool false))))
  (K (AE.returned (Value.bool false))))
  (K (AE.returned (Value.bool false))))
  (br (op == (20 : Int))
  (br (decide (a ≥ (0 : Int)))
  (br (decide (a < (400 : Int))) (K (AE.returned (Value.bool (n == (0 : Int)))))
  (K (AE.returned (Value.bool false))))
  (K (AE.returned (Value.bool false))))
  (br (op == (21 : Int))
  (br (decide (a ≥ (0 : Int)))
  (br (decide (a < (400 : Int))) (K (AE.returned (Value.bool (n == (0 : Int)))))
  (K (AE.returned (Value.bool false))))
  (K (AE.returned (Value.bool false))))
  (br (op == (22 : Int))
  (br (decide (kd ≥ (11 : Int)))
  (br (decide (a < (64 : Int)))
  (br (decide (kd ≥ (6 : Int)))
  (br (decide (kd ≤ (12 : Int))) (K (AE.returned (Value.bool (n == (1 : Int)))))
  (K (AE.returned (Value.bool false))))
  (K (AE.returned (Value.bool false))))
  (K (AE.returned (Value.bool false))))
  (br (decide (a < (64 : Int)))
  (br (decide (kd ≥ (6 : Int)))
  (br (decide (kd ≤ (12 : Int))) (K (AE.returned (Value.bool (n == (2 : Int)))))
  (K (AE.returned (Value.bool false))))
  (K (AE.returned (Value.bool false))))
  (K (AE.returned (Value.bool false)))))
  (br (op == (23 : Int))
  (br (n == (0 : Int)) (K (AE.returned (Value.bool (a == (0 : Int)))))
  (K (AE.returned (Value.bool false))))
  (br (op == (17 : Int))
  (br (a == (0 : Int))
  (br (decide (kd ≥ (2 : Int)))
  (br (decide (kd ≤ (5 : Int)))
  (br (decide (n ≥ (2 : Int)))
  (K (AE.returned (Value.bool (decide (n ≤ (5 : Int))))))
  (K (AE.returned (Value.bool false))))
  (K (AE.returned (Value.bool false))))
  (K (AE.returned (Value.bool false))))
  (K (AE.returned (Value.bool false))))
  (br (a != (0 : Int)) (K (AE.returned (Value.bool false)))
  (br (n != (0 : Int)) (K (AE.returned (Value.bool false)))
  (br (decide (kd < (1 : Int))) (K (AE.returned (Value.bool false)))
  (br (decide (kd > (5 : Int))) (K (AE.returned (Value.bool false)))
  (br (op == (4 : Int)) (K (AE.returned (Value.bool (kd != (1 : Int)))))
  (br (op == (5 : Int)) (K (AE.returned (Value.bool (kd != (1 : Int)))))
  (br (op == (6 : Int)) (K (AE.returned (Value.bool (kd != (1 : Int)))))
  (br (op == (7 : Int)) (K (AE.returned (Value.bool (kd != (1 : Int)))))
  (br (op == (16 : Int)) (K (AE.returned (Value.bool (kd != (1 : Int)))))
  (br (op == (11 : Int))
  (K (AE.returned (Value.bool (kd != (1 : Int)))))
  (br (op == (12 : Int))
  (K (AE.returned (Value.bool (kd != (1 : Int)))))
  (br (op == (8 : Int))
  (br (kd == (2 : Int)) (K (AE.returned (Value.bool true)))
  (br (kd == (3 : Int)) (K (AE.returned (Value.bool true)))
  (K (AE.returned (Value.bool (kd == (4 : Int)))))))
  (br (op == (9 : Int)) (K (AE.returned (Value.bool true)))
  (br (op == (10 : Int)) (K (AE.returned (Value.bool true)))
  (br (op == (13 : Int))
  (K (AE.returned (Value.bool (kd == (1 : Int)))))
  (br (op == (14 : Int))
  (K (AE.returned (Value.bool (kd == (1 : Int)))))
  (br (op == (15 : Int))
  (K (AE.returned (Value.bool (kd == (1 : Int)))))
  (K
  (AE.returned
  (Value.bool false))))))))))))))))))))))))))))))
  (br (op == (1 : Int))
  (br (valB vk vi vf)
  (br (kd == vk)
  (br (a == (0 : Int)) (K (AE.returned (Value.bool (n == (0 : Int)))))
  (K (AE.returned (Value.bool false))))
  (K (AE.returned (Value.bool false))))
  (K (AE.returned (Value.bool false))))
  (br (op == (2 : Int))
  (br (decide (a < (64 : Int))) (K (AE.returned (Value.bool false))) (K (AE.returned (Value.bool false))))
  (br (op == (18 : Int))
  (br (decide (a < (64 : Int))) (K (AE.returned (Value.bool false)))
  (K (AE.returned (Value.bool false))))
  (br (op == (3 : Int))
  (br (decide (a < (64 : Int)))
  (br (kd == (0 : Int))
  (br (decide (n ≥ (1 : Int))) (K (AE.returned (Value.bool (decide (n ≤ (8 : Int))))))
  (K (AE.returned (Value.bool false))))
  (K (AE.returned (Value.bool false))))
  (K (AE.returned (Value.bool false))))
  (br (op == (19 : Int))
  (br (decide (a < (64 : Int)))
  (br (kd == (0 : Int))
  (br (decide (n ≥ (1 : Int))) (K (AE.returned (Value.bool (decide (n ≤ (8 : Int))))))
  (K (AE.returned (Value.bool false))))
  (K (AE.returned (Value.bool false))))
  (K (AE.returned (Value.bool false))))
  (br (op == (20 : Int))
  (br (decide (a ≥ (0 : Int)))
  (br (decide (a < (400 : Int))) (K (AE.returned (Value.bool false)))
  (K (AE.returned (Value.bool false))))
  (K (AE.returned (Value.bool false))))
  (br (op == (21 : Int))
  (br (decide (a ≥ (0 : Int)))
  (br (decide (a < (400 : Int))) (K (AE.returned (Value.bool false)))
  (K (AE.returned (Value.bool false))))
  (K (AE.returned (Value.bool false))))
  (br (op == (22 : Int))
  (br (decide (kd ≥ (11 : Int)))
  (br (decide (a < (64 : Int)))
  (br (decide (kd ≥ (6 : Int)))
  (br (decide (kd ≤ (12 : Int))) (K (AE.returned (Value.bool (n == (1 : Int)))))
  (K (AE.returned (Value.bool false))))
  (K (AE.returned (Value.bool false))))
  (K (AE.returned (Value.bool false))))
  (br (decide (a < (64 : Int)))
  (br (decide (kd ≥ (6 : Int)))
  (br (decide (kd ≤ (12 : Int))) (K (AE.returned (Value.bool (n == (2 : Int)))))
  (K (AE.returned (Value.bool false))))
  (K (AE.returned (Value.bool false))))
  (K (AE.returned (Value.bool false)))))
  (br (op == (23 : Int)) (K (AE.returned (Value.bool false)))
  (br (op == (17 : Int))
  (br (a == (0 : Int))
  (br (decide (kd ≥ (2 : Int)))
  (br (decide (kd ≤ (5 : Int)))
  (br (decide (n ≥ (2 : Int)))
  (K (AE.returned (Value.bool (decide (n ≤ (5 : Int))))))
  (K (AE.returned (Value.bool false))))
  (K (AE.returned (Value.bool false))))
  (K (AE.returned (Value.bool false))))
  (K (AE.returned (Value.bool false))))
  (br (a != (0 : Int)) (K (AE.returned (Value.bool false)))
  (br (n != (0 : Int)) (K (AE.returned (Value.bool false)))
  (br (decide (kd < (1 : Int))) (K (AE.returned (Value.bool false)))
  (br (decide (kd > (5 : Int))) (K (AE.returned (Value.bool false)))
  (br (op == (4 : Int)) (K (AE.returned (Value.bool (kd != (1 : Int)))))
  (br (op == (5 : Int)) (K (AE.returned (Value.bool (kd != (1 : Int)))))
  (br (op == (6 : Int)) (K (AE.returned (Value.bool (kd != (1 : Int)))))
  (br (op == (7 : Int)) (K (AE.returned (Value.bool (kd != (1 : Int)))))
  (br (op == (16 : Int)) (K (AE.returned (Value.bool (kd != (1 : Int)))))
  (br (op == (11 : Int))
  (K (AE.returned (Value.bool (kd != (1 : Int)))))
  (br (op == (12 : Int))
  (K (AE.returned (Value.bool (kd != (1 : Int)))))
  (br (op == (8 : Int))
  (br (kd == (2 : Int)) (K (AE.returned (Value.bool true)))
  (br (kd == (3 : Int)) (K (AE.returned (Value.bool true)))
  (K (AE.returned (Value.bool (kd == (4 : Int)))))))
  (br (op == (9 : Int)) (K (AE.returned (Value.bool true)))
  (br (op == (10 : Int)) (K (AE.returned (Value.bool true)))
  (br (op == (13 : Int))
  (K (AE.returned (Value.bool (kd == (1 : Int)))))
  (br (op == (14 : Int))
  (K (AE.returned (Value.bool (kd == (1 : Int)))))
  (br (op == (15 : Int))
  (K (AE.returned (Value.bool (kd == (1 : Int)))))
  (K
  (AE.returned
  (Value.bool false)))))))))))))))))))))))))))))))
  (br (kd == (0 : Int))
  (br (op == (1 : Int))
  (br (valB vk vi vf)
  (br (kd == vk)
  (br (a == (0 : Int)) (K (AE.returned (Value.bool (n == (0 : Int)))))
  (K (AE.returned (Value.bool false))))
  (K (AE.returned (Value.bool false))))
  (K (AE.returned (Value.bool false))))
  (br (op == (2 : Int)) (K (AE.returned (Value.bool false)))
  (br (op == (18 : Int)) (K (AE.returned (Value.bool false)))
  (br (op == (3 : Int)) (K (AE.returned (Value.bool false)))
  (br (op == (19 : Int)) (K (AE.returned (Value.bool false)))
  (br (op == (20 : Int))
  (br (decide (a ≥ (0 : Int)))
  (br (decide (a < (400 : Int))) (K (AE.returned (Value.bool (n == (0 : Int)))))
  (K (AE.returned (Value.bool false))))
  (K (AE.returned (Value.bool false))))
  (br (op == (21 : Int))
  (br (decide (a ≥ (0 : Int)))
  (br (decide (a < (400 : Int))) (K (AE.returned (Value.bool (n == (0 : Int)))))
  (K (AE.returned (Value.bool false))))
  (K (AE.returned (Value.bool false))))
  (br (op == (22 : Int))
  (br (decide (kd ≥ (11 : Int))) (K (AE.returned (Value.bool false)))
  (K (AE.returned (Value.bool false))))
  (br (op == (23 : Int))
  (br (n == (0 : Int)) (K (AE.returned (Value.bool (a == (0 : Int)))))
  (K (AE.returned (Value.bool false))))
  (br (op == (17 : Int))
  (br (a == (0 : Int))
  (br (decide (kd ≥ (2 : Int)))
  (br (decide (kd ≤ (5 : Int)))
  (br (decide (n ≥ (2 : Int)))
  (K (AE.returned (Value.bool (decide (n ≤ (5 : Int))))))
  (K (AE.returned (Value.bool false))))
  (K (AE.returned (Value.bool false))))
  (K (AE.returned (Value.bool false))))
  (K (AE.returned (Value.bool false))))
  (br (a != (0 : Int)) (K (AE.returned (Value.bool false)))
  (br (n != (0 : Int)) (K (AE.returned (Value.bool false)))
  (br (decide (kd < (1 : Int))) (K (AE.returned (Value.bool false)))
  (br (decide (kd > (5 : Int))) (K (AE.returned (Value.bool false)))
  (br (op == (4 : Int)) (K (AE.returned (Value.bool (kd != (1 : Int)))))
  (br (op == (5 : Int)) (K (AE.returned (Value.bool (kd != (1 : Int)))))
  (br (op == (6 : Int)) (K (AE.returned (Value.bool (kd != (1 : Int)))))
  (br (op == (7 : Int)) (K (AE.returned (Value.bool (kd != (1 : Int)))))
  (br (op == (16 : Int)) (K (AE.returned (Value.bool (kd != (1 : Int)))))
  (br (op == (11 : Int))
  (K (AE.returned (Value.bool (kd != (1 : Int)))))
  (br (op == (12 : Int))
  (K (AE.returned (Value.bool (kd != (1 : Int)))))
  (br (op == (8 : Int))
  (br (kd == (2 : Int)) (K (AE.returned (Value.bool true)))
  (br (kd == (3 : Int)) (K (AE.returned (Value.bool true)))
  (K (AE.returned (Value.bool (kd == (4 : Int)))))))
  (br (op == (9 : Int)) (K (AE.returned (Value.bool true)))
  (br (op == (10 : Int)) (K (AE.returned (Value.bool true)))
  (br (op == (13 : Int))
  (K (AE.returned (Value.bool (kd == (1 : Int)))))
  (br (op == (14 : Int))
  (K (AE.returned (Value.bool (kd == (1 : Int)))))
  (br (op == (15 : Int))
  (K (AE.returned (Value.bool (kd == (1 : Int)))))
  (K
  (AE.returned
  (Value.bool false))))))))))))))))))))))))))))))
  (br (op == (1 : Int))
  (br (valB vk vi vf)
  (br (kd == vk)
  (br (a == (0 : Int)) (K (AE.returned (Value.bool (n == (0 : Int)))))
  (K (AE.returned (Value.bool false))))
  (K (AE.returned (Value.bool false))))
  (K (AE.returned (Value.bool false))))
  (br (op == (2 : Int)) (K (AE.returned (Value.bool false)))
  (br (op == (18 : Int)) (K (AE.returned (Value.bool false)))
  (br (op == (3 : Int)) (K (AE.returned (Value.bool false)))
  (br (op == (19 : Int)) (K (AE.returned (Value.bool false)))
  (br (op == (20 : Int))
  (br (decide (a ≥ (0 : Int)))
  (br (decide (a < (400 : Int))) (K (AE.returned (Value.bool false)))
  (K (AE.returned (Value.bool false))))
  (K (AE.returned (Value.bool false))))
  (br (op == (21 : Int))
  (br (decide (a ≥ (0 : Int)))
  (br (decide (a < (400 : Int))) (K (AE.returned (Value.bool false)))
  (K (AE.returned (Value.bool false))))
  (K (AE.returned (Value.bool false))))
  (br (op == (22 : Int))
  (br (decide (kd ≥ (11 : Int))) (K (AE.returned (Value.bool false)))
  (K (AE.returned (Value.bool false))))
  (br (op == (23 : Int)) (K (AE.returned (Value.bool false)))
  (br (op == (17 : Int))
  (br (a == (0 : Int))
  (br (decide (kd ≥ (2 : Int)))
  (br (decide (kd ≤ (5 : Int)))
  (br (decide (n ≥ (2 : Int)))
  (K (AE.returned (Value.bool (decide (n ≤ (5 : Int))))))
  (K (AE.returned (Value.bool false))))
  (K (AE.returned (Value.bool false))))
  (K (AE.returned (Value.bool false))))
  (K (AE.returned (Value.bool false))))
  (br (a != (0 : Int)) (K (AE.returned (Value.bool false)))
  (br (n != (0 : Int)) (K (AE.returned (Value.bool false)))
  (br (decide (kd < (1 : Int))) (K (AE.returned (Value.bool false)))
  (br (decide (kd > (5 : Int))) (K (AE.returned (Value.bool false)))
  (br (op == (4 : Int)) (K (AE.returned (Value.bool (kd != (1 : Int)))))
  (br (op == (5 : Int)) (K (AE.returned (Value.bool (kd != (1 : Int)))))
  (br (op == (6 : Int)) (K (AE.returned (Value.bool (kd != (1 : Int)))))
  (br (op == (7 : Int)) (K (AE.returned (Value.bool (kd != (1 : Int)))))
  (br (op == (16 : Int)) (K (AE.returned (Value.bool (kd != (1 : Int)))))
  (br (op == (11 : Int))
  (K (AE.returned (Value.bool (kd != (1 : Int)))))
  (br (op == (12 : Int))
  (K (AE.returned (Value.bool (kd != (1 : Int)))))
  (br (op == (8 : Int))
  (br (kd == (2 : Int)) (K (AE.returned (Value.bool true)))
  (br (kd == (3 : Int)) (K (AE.returned (Value.bool true)))
  (K (AE.returned (Value.bool (kd == (4 : Int)))))))
  (br (op == (9 : Int)) (K (AE.returned (Value.bool true)))
  (br (op == (10 : Int)) (K (AE.returned (Value.bool true)))
  (br (op == (13 : Int))
  (K (AE.returned (Value.bool (kd == (1 : Int)))))
  (br (op == (14 : Int))
  (K (AE.returned (Value.bool (kd == (1 : Int)))))
  (br (op == (15 : Int))
  (K (AE.returned (Value.bool (kd == (1 : Int)))))
  (K
  (AE.returned
  (Value.bool
  false)))))))))))))))))))))))))))))))))))
  (br (decide (a ≥ (0 : Int)))
  (br (kd == (0 : Int))
  (br (op == (1 : Int))
  (br (valB vk vi vf)
  (br (kd == vk)
  (br (a == (0 : Int)) (K (AE.returned (Value.bool (n == (0 : Int))))) (K (AE.returned (Value.bool false))))
  (K (AE.returned (Value.bool false))))
  (K (AE.returned (Value.bool false))))
  (br (op == (2 : Int))
  (br (decide (a < (64 : Int))) (K (AE.returned (Value.bool (n == (0 : Int)))))
  (K (AE.returned (Value.bool false))))
  (br (op == (18 : Int))
  (br (decide (a < (64 : Int))) (K (AE.returned (Value.bool (n == (0 : Int)))))
  (K (AE.returned (Value.bool false))))
  (br (op == (3 : Int))
  (br (decide (a < (64 : Int)))
  (br (kd == (0 : Int))
  (br (decide (n ≥ (1 : Int))) (K (AE.returned (Value.bool (decide (n ≤ (8 : Int))))))
  (K (AE.returned (Value.bool false))))
  (K (AE.returned (Value.bool false))))
  (K (AE.returned (Value.bool false))))
  (br (op == (19 : Int))
  (br (decide (a < (64 : Int)))
  (br (kd == (0 : Int))
  (br (decide (n ≥ (1 : Int))) (K (AE.returned (Value.bool (decide (n ≤ (8 : Int))))))
  (K (AE.returned (Value.bool false))))
  (K (AE.returned (Value.bool false))))
  (K (AE.returned (Value.bool false))))
  (br (op == (20 : Int))
  (br (decide (a ≥ (0 : Int)))
  (br (decide (a < (400 : Int))) (K (AE.returned (Value.bool (n == (0 : Int)))))
  (K (AE.returned (Value.bool false))))
  (K (AE.returned (Value.bool false))))
  (br (op == (21 : Int))
  (br (decide (a ≥ (0 : Int)))
  (br (decide (a < (400 : Int))) (K (AE.returned (Value.bool (n == (0 : Int)))))
  (K (AE.returned (Value.bool false))))
  (K (AE.returned (Value.bool false))))
  (br (op == (22 : Int))
  (br (decide (kd ≥ (11 : Int)))
  (br (decide (a < (64 : Int)))
  (br (decide (kd ≥ (6 : Int)))
  (br (decide (kd ≤ (12 : Int))) (K (AE.returned (Value.bool (n == (1 : Int)))))
  (K (AE.returned (Value.bool false))))
  (K (AE.returned (Value.bool false))))
  (K (AE.returned (Value.bool false))))
  (br (decide (a < (64 : Int)))
  (br (decide (kd ≥ (6 : Int)))
  (br (decide (kd ≤ (12 : Int))) (K (AE.returned (Value.bool (n == (2 : Int)))))
  (K (AE.returned (Value.bool false))))
  (K (AE.returned (Value.bool false))))
  (K (AE.returned (Value.bool false)))))
  (br (op == (23 : Int))
  (br (n == (0 : Int)) (K (AE.returned (Value.bool (a == (0 : Int)))))
  (K (AE.returned (Value.bool false))))
  (br (op == (17 : Int))
  (br (a == (0 : Int))
  (br (decide (kd ≥ (2 : Int)))
  (br (decide (kd ≤ (5 : Int)))
  (br (decide (n ≥ (2 : Int))) (K (AE.returned (Value.bool (decide (n ≤ (5 : Int))))))
  (K (AE.returned (Value.bool false))))
  (K (AE.returned (Value.bool false))))
  (K (AE.returned (Value.bool false))))
  (K (AE.returned (Value.bool false))))
  (br (a != (0 : Int)) (K (AE.returned (Value.bool false)))
  (br (n != (0 : Int)) (K (AE.returned (Value.bool false)))
  (br (decide (kd < (1 : Int))) (K (AE.returned (Value.bool false)))
  (br (decide (kd > (5 : Int))) (K (AE.returned (Value.bool false)))
  (br (op == (4 : Int)) (K (AE.returned (Value.bool (kd != (1 : Int)))))
  (br (op == (5 : Int)) (K (AE.returned (Value.bool (kd != (1 : Int)))))
  (br (op == (6 : Int)) (K (AE.returned (Value.bool (kd != (1 : Int)))))
  (br (op == (7 : Int)) (K (AE.returned (Value.bool (kd != (1 : Int)))))
  (br (op == (16 : Int)) (K (AE.returned (Value.bool (kd != (1 : Int)))))
  (br (op == (11 : Int)) (K (AE.returned (Value.bool (kd != (1 : Int)))))
  (br (op == (12 : Int)) (K (AE.returned (Value.bool (kd != (1 : Int)))))
  (br (op == (8 : Int))
  (br (kd == (2 : Int)) (K (AE.returned (Value.bool true)))
  (br (kd == (3 : Int)) (K (AE.returned (Value.bool true)))
  (K (AE.returned (Value.bool (kd == (4 : Int)))))))
  (br (op == (9 : Int)) (K (AE.returned (Value.bool true)))
  (br (op == (10 : Int)) (K (AE.returned (Value.bool true)))
  (br (op == (13 : Int))
  (K (AE.returned (Value.bool (kd == (1 : Int)))))
  (br (op == (14 : Int))
  (K (AE.returned (Value.bool (kd == (1 : Int)))))
  (br (op == (15 : Int))
  (K (AE.returned (Value.bool (kd == (1 : Int)))))
  (K
  (AE.returned
  (Value.bool false))))))))))))))))))))))))))))))
  (br (op == (1 : Int))
  (br (valB vk vi vf)
  (br (kd == vk)
  (br (a == (0 : Int)) (K (AE.returned (Value.bool (n == (0 : Int))))) (K (AE.returned (Value.bool false))))
  (K (AE.returned (Value.bool false))))
  (K (AE.returned (Value.bool false))))
  (br (op == (2 : Int))
  (br (decide (a < (64 : Int))) (K (AE.returned (Value.bool false))) (K (AE.returned (Value.bool false))))
  (br (op == (18 : Int))
  (br (decide (a < (64 : Int))) (K (AE.returned (Value.bool false))) (K (AE.returned (Value.bool false))))
  (br (op == (3 : Int))
  (br (decide (a < (64 : Int)))
  (br (kd == (0 : Int))
  (br (decide (n ≥ (1 : Int))) (K (AE.returned (Value.bool (decide (n ≤ (8 : Int))))))
  (K (AE.returned (Value.bool false))))
  (K (AE.returned (Value.bool false))))
  (K (AE.returned (Value.bool false))))
  (br (op == (19 : Int))
  (br (decide (a < (64 : Int)))
  (br (kd == (0 : Int))
  (br (decide (n ≥ (1 : Int))) (K (AE.returned (Value.bool (decide (n ≤ (8 : Int))))))
  (K (AE.returned (Value.bool false))))
  (K (AE.returned (Value.bool false))))
  (K (AE.returned (Value.bool false))))
  (br (op == (20 : Int))
  (br (decide (a ≥ (0 : Int)))
  (br (decide (a < (400 : Int))) (K (AE.returned (Value.bool false)))
  (K (AE.returned (Value.bool false))))
  (K (AE.returned (Value.bool false))))
  (br (op == (21 : Int))
  (br (decide (a ≥ (0 : Int)))
  (br (decide (a < (400 : Int))) (K (AE.returned (Value.bool false)))
  (K (AE.returned (Value.bool false))))
  (K (AE.returned (Value.bool false))))
  (br (op == (22 : Int))
  (br (decide (kd ≥ (11 : Int)))
  (br (decide (a < (64 : Int)))
  (br (decide (kd ≥ (6 : Int)))
  (br (decide (kd ≤ (12 : Int))) (K (AE.returned (Value.bool (n == (1 : Int)))))
  (K (AE.returned (Value.bool false))))
  (K (AE.returned (Value.bool false))))
  (K (AE.returned (Value.bool false))))
  (br (decide (a < (64 : Int)))
  (br (decide (kd ≥ (6 : Int)))
  (br (decide (kd ≤ (12 : Int))) (K (AE.returned (Value.bool (n == (2 : Int)))))
  (K (AE.returned (Value.bool false))))
  (K (AE.returned (Value.bool false))))
  (K (AE.returned (Value.bool false)))))
  (br (op == (23 : Int)) (K (AE.returned (Value.bool false)))
  (br (op == (17 : Int))
  (br (a == (0 : Int))
  (br (decide (kd ≥ (2 : Int)))
  (br (decide (kd ≤ (5 : Int)))
  (br (decide (n ≥ (2 : Int))) (K (AE.returned (Value.bool (decide (n ≤ (5 : Int))))))
  (K (AE.returned (Value.bool false))))
  (K (AE.returned (Value.bool false))))
  (K (AE.returned (Value.bool false))))
  (K (AE.returned (Value.bool false))))
  (br (a != (0 : Int)) (K (AE.returned (Value.bool false)))
  (br (n != (0 : Int)) (K (AE.returned (Value.bool false)))
  (br (decide (kd < (1 : Int))) (K (AE.returned (Value.bool false)))
  (br (decide (kd > (5 : Int))) (K (AE.returned (Value.bool false)))
  (br (op == (4 : Int)) (K (AE.returned (Value.bool (kd != (1 : Int)))))
  (br (op == (5 : Int)) (K (AE.returned (Value.bool (kd != (1 : Int)))))
  (br (op == (6 : Int)) (K (AE.returned (Value.bool (kd != (1 : Int)))))
  (br (op == (7 : Int)) (K (AE.returned (Value.bool (kd != (1 : Int)))))
  (br (op == (16 : Int)) (K (AE.returned (Value.bool (kd != (1 : Int)))))
  (br (op == (11 : Int)) (K (AE.returned (Value.bool (kd != (1 : Int)))))
  (br (op == (12 : Int)) (K (AE.returned (Value.bool (kd != (1 : Int)))))
  (br (op == (8 : Int))
  (br (kd == (2 : Int)) (K (AE.returned (Value.bool true)))
  (br (kd == (3 : Int)) (K (AE.returned (Value.bool true)))
  (K (AE.returned (Value.bool (kd == (4 : Int)))))))
  (br (op == (9 : Int)) (K (AE.returned (Value.bool true)))
  (br (op == (10 : Int)) (K (AE.returned (Value.bool true)))
  (br (op == (13 : Int))
  (K (AE.returned (Value.bool (kd == (1 : Int)))))
  (br (op == (14 : Int))
  (K (AE.returned (Value.bool (kd == (1 : Int)))))
  (br (op == (15 : Int))
  (K (AE.returned (Value.bool (kd == (1 : Int)))))
  (K
  (AE.returned
  (Value.bool false)))))))))))))))))))))))))))))))
  (br (kd == (0 : Int))
  (br (op == (1 : Int))
  (br (valB vk vi vf)
  (br (kd == vk)
  (br (a == (0 : Int)) (K (AE.returned (Value.bool (n == (0 : Int))))) (K (AE.returned (Value.bool false))))
  (K (AE.returned (Value.bool false))))
  (K (AE.returned (Value.bool false))))
  (br (op == (2 : Int)) (K (AE.returned (Value.bool false)))
  (br (op == (18 : Int)) (K (AE.returned (Value.bool false)))
  (br (op == (3 : Int)) (K (AE.returned (Value.bool false)))
  (br (op == (19 : Int)) (K (AE.returned (Value.bool false)))
  (br (op == (20 : Int))
  (br (decide (a ≥ (0 : Int)))
  (br (decide (a < (400 : Int))) (K (AE.returned (Value.bool (n == (0 : Int)))))
  (K (AE.returned (Value.bool false))))
  (K (AE.returned (Value.bool false))))
  (br (op == (21 : Int))
  (br (decide (a ≥ (0 : Int)))
  (br (decide (a < (400 : Int))) (K (AE.returned (Value.bool (n == (0 : Int)))))
  (K (AE.returned (Value.bool false))))
  (K (AE.returned (Value.bool false))))
  (br (op == (22 : Int))
  (br (decide (kd ≥ (11 : Int))) (K (AE.returned (Value.bool false)))
  (K (AE.returned (Value.bool false))))
  (br (op == (23 : Int))
  (br (n == (0 : Int)) (K (AE.returned (Value.bool (a == (0 : Int)))))
  (K (AE.returned (Value.bool false))))
  (br (op == (17 : Int))
  (br (a == (0 : Int))
  (br (decide (kd ≥ (2 : Int)))
  (br (decide (kd ≤ (5 : Int)))
  (br (decide (n ≥ (2 : Int))) (K (AE.returned (Value.bool (decide (n ≤ (5 : Int))))))
  (K (AE.returned (Value.bool false))))
  (K (AE.returned (Value.bool false))))
  (K (AE.returned (Value.bool false))))
  (K (AE.returned (Value.bool false))))
  (br (a != (0 : Int)) (K (AE.returned (Value.bool false)))
  (br (n != (0 : Int)) (K (AE.returned (Value.bool false)))
  (br (decide (kd < (1 : Int))) (K (AE.returned (Value.bool false)))
  (br (decide (kd > (5 : Int))) (K (AE.returned (Value.bool false)))
  (br (op == (4 : Int)) (K (AE.returned (Value.bool (kd != (1 : Int)))))
  (br (op == (5 : Int)) (K (AE.returned (Value.bool (kd != (1 : Int)))))
  (br (op == (6 : Int)) (K (AE.returned (Value.bool (kd != (1 : Int)))))
  (br (op == (7 : Int)) (K (AE.returned (Value.bool (kd != (1 : Int)))))
  (br (op == (16 : Int)) (K (AE.returned (Value.bool (kd != (1 : Int)))))
  (br (op == (11 : Int)) (K (AE.returned (Value.bool (kd != (1 : Int)))))
  (br (op == (12 : Int)) (K (AE.returned (Value.bool (kd != (1 : Int)))))
  (br (op == (8 : Int))
  (br (kd == (2 : Int)) (K (AE.returned (Value.bool true)))
  (br (kd == (3 : Int)) (K (AE.returned (Value.bool true)))
  (K (AE.returned (Value.bool (kd == (4 : Int)))))))
  (br (op == (9 : Int)) (K (AE.returned (Value.bool true)))
  (br (op == (10 : Int)) (K (AE.returned (Value.bool true)))
  (br (op == (13 : Int))
  (K (AE.returned (Value.bool (kd == (1 : Int)))))
  (br (op == (14 : Int))
  (K (AE.returned (Value.bool (kd == (1 : Int)))))
  (br (op == (15 : Int))
  (K (AE.returned (Value.bool (kd == (1 : Int)))))
  (K
  (AE.returned
  (Value.bool false))))))))))))))))))))))))))))))
  (br (op == (1 : Int))
  (br (valB vk vi vf)
  (br (kd == vk)
  (br (a == (0 : Int)) (K (AE.returned (Value.bool (n == (0 : Int))))) (K (AE.returned (Value.bool false))))
  (K (AE.returned (Value.bool false))))
  (K (AE.returned (Value.bool false))))
  (br (op == (2 : Int)) (K (AE.returned (Value.bool false)))
  (br (op == (18 : Int)) (K (AE.returned (Value.bool false)))
  (br (op == (3 : Int)) (K (AE.returned (Value.bool false)))
  (br (op == (19 : Int)) (K (AE.returned (Value.bool false)))
  (br (op == (20 : Int))
  (br (decide (a ≥ (0 : Int)))
  (br (decide (a < (400 : Int))) (K (AE.returned (Value.bool false)))
  (K (AE.returned (Value.bool false))))
  (K (AE.returned (Value.bool false))))
  (br (op == (21 : Int))
  (br (decide (a ≥ (0 : Int)))
  (br (decide (a < (400 : Int))) (K (AE.returned (Value.bool false)))
  (K (AE.returned (Value.bool false))))
  (K (AE.returned (Value.bool false))))
  (br (op == (22 : Int))
  (br (decide (kd ≥ (11 : Int))) (K (AE.returned (Value.bool false)))
  (K (AE.returned (Value.bool false))))
  (br (op == (23 : Int)) (K (AE.returned (Value.bool false)))
  (br (op == (17 : Int))
  (br (a == (0 : Int))
  (br (decide (kd ≥ (2 : Int)))
  (br (decide (kd ≤ (5 : Int)))
  (br (decide (n ≥ (2 : Int))) (K (AE.returned (Value.bool (decide (n ≤ (5 : Int))))))
  (K (AE.returned (Value.bool false))))
  (K (AE.returned (Value.bool false))))
  (K (AE.returned (Value.bool false))))
  (K (AE.returned (Value.bool false))))
  (br (a != (0 : Int)) (K (AE.returned (Value.bool false)))
  (br (n != (0 : Int)) (K (AE.returned (Value.bool false)))
  (br (decide (kd < (1 : Int))) (K (AE.returned (Value.bool false)))
  (br (decide (kd > (5 : Int))) (K (AE.returned (Value.bool false)))
  (br (op == (4 : Int)) (K (AE.returned (Value.bool (kd != (1 : Int)))))
  (br (op == (5 : Int)) (K (AE.returned (Value.bool (kd != (1 : Int)))))
  (br (op == (6 : Int)) (K (AE.returned (Value.bool (kd != (1 : Int)))))
  (br (op == (7 : Int)) (K (AE.returned (Value.bool (kd != (1 : Int)))))
  (br (op == (16 : Int)) (K (AE.returned (Value.bool (kd != (1 : Int)))))
  (br (op == (11 : Int)) (K (AE.returned (Value.bool (kd != (1 : Int)))))
  (br (op == (12 : Int)) (K (AE.returned (Value.bool (kd != (1 : Int)))))
  (br (op == (8 : Int))
  (br (kd == (2 : Int)) (K (AE.returned (Value.bool true)))
  (br (kd == (3 : Int)) (K (AE.returned (Value.bool true)))
  (K (AE.returned (Value.bool (kd == (4 : Int)))))))
  (br (op == (9 : Int)) (K (AE.returned (Value.bool true)))
  (br (op == (10 : Int)) (K (AE.returned (Value.bool true)))
  (br (op == (13 : Int))
  (K (AE.returned (Value.bool (kd == (1 : Int)))))
  (br (op == (14 : Int))
  (K (AE.returned (Value.bool (kd == (1 : Int)))))
  (br (op == (15 : Int))
  (K (AE.returned (Value.bool (kd == (1 : Int)))))
  (K
  (AE.returned
  (Value.bool false))))))))))))))))))))))))))))))))) := by kernel_rfl
end Go.Proofs.Ytncndnlbiijdoaa.Ev

/-! inst.May, ref7.MayInst: told to the evaluator. -/
set_option linter.unusedVariables false
set_option linter.unusedSimpArgs false
set_option maxRecDepth 100000
namespace Go.Proofs.Ytncndnlbiijdoaa.Ev
open Go Go.Proofs Go.RowKit

def valN (k i : Int) (f : Nat) : Nat := if valP k i f then 1 else 0
theorem valB_eq (k i : Int) (f : Nat) : valB k i f = decide (valN k i f = 1) := by
  unfold valB valN
  by_cases h : valP k i f
  · simp [h]
  · simp [h]
theorem valN_iff (k i : Int) (f : Nat) : valN k i f = 1 ↔ valP k i f := by
  unfold valN
  by_cases h : valP k i f
  · simp [h]
  · simp [h]
/-- may an instruction be? -/
def mayP (x : In) : Prop :=
  (x.op = 1 ∧ x.a = 0 ∧ x.n = 0 ∧ x.kd = x.v.k ∧ valN x.v.k x.v.i x.v.f = 1) ∨
  (x.v.k = 0 ∧ x.v.i = 0 ∧ bitsN x.v.f = 0 ∧ (
    ((x.op = 2 ∨ x.op = 18) ∧ x.kd = 0 ∧ x.n = 0 ∧ 0 ≤ x.a ∧ x.a ≤ 63) ∨
    ((x.op = 3 ∨ x.op = 19) ∧ x.kd = 0 ∧ 0 ≤ x.a ∧ x.a ≤ 63 ∧ 1 ≤ x.n ∧ x.n ≤ 8) ∨
    ((x.op = 20 ∨ x.op = 21) ∧ x.kd = 0 ∧ x.n = 0 ∧ 0 ≤ x.a ∧ x.a ≤ 399) ∨
    (x.op = 22 ∧ 6 ≤ x.kd ∧ x.kd ≤ 12 ∧ 0 ≤ x.a ∧ x.a ≤ 63 ∧ ((11 ≤ x.kd ∧ x.n = 1) ∨ (x.kd ≤ 10 ∧ x.n = 2))) ∨
    (x.op = 23 ∧ x.kd = 0 ∧ x.a = 0 ∧ x.n = 0) ∨
    (x.op = 17 ∧ x.a = 0 ∧ 2 ≤ x.kd ∧ x.kd ≤ 5 ∧ 2 ≤ x.n ∧ x.n ≤ 5) ∨
    (4 ≤ x.op ∧ x.op ≤ 16 ∧ x.a = 0 ∧ x.n = 0 ∧ (((x.op = 9 ∨ x.op = 10) ∧ 1 ≤ x.kd ∧ x.kd ≤ 5) ∨ ((x.op = 13 ∨ x.op = 14 ∨ x.op = 15) ∧ x.kd = 1) ∨ (x.op = 8 ∧ 2 ≤ x.kd ∧ x.kd ≤ 4) ∨ ((x.op = 4 ∨ x.op = 5 ∨ x.op = 6 ∨ x.op = 7 ∨ x.op = 11 ∨ x.op = 12 ∨ x.op = 16) ∧ 2 ≤ x.kd ∧ x.kd ≤ 5)))))
noncomputable instance (x : In) : Decidable (mayP x) := Classical.propDecidable _
noncomputable def mayB (x : In) : Bool := decide (mayP x)
set_option maxHeartbeats 40000000 in
theorem may_main (op kd a n vk vi : Int) (vf : Nat) : funK Try.prog toldB2 100 20 8 [.agg (Array.mk [.int .i64 op, .int .i64 kd, .int .i64 a, .int .i64 n, .int .i64 vk, .int .i64 vi, .float .f64 vf])] st0 (fun r _ => r = .returned (.bool (mayB ⟨op, kd, a, n, ⟨vk, vi, vf⟩⟩))) := by
  rw [vc_may op kd a n vk vi vf fun r => r = .returned (.bool (mayB ⟨op, kd, a, n, ⟨vk, vi, vf⟩⟩))]
  simp only [bits0, bits0', valB_eq]
  unfold mayB
  repeat' (with_reducible refine br_of (fun _ => ?_) (fun _ => ?_))
  all_goals (refine ret_leaf ?_; simp only [beq_iff_eq, beq_eq_false_iff_ne, bne_iff_ne, bne_eq_false_iff_eq, decide_eq_true_eq, decide_eq_false_iff_not, Bool.and_eq_true, Bool.not_eq_true', Bool.not_eq_false', ne_eq, Bool.true_eq_false, Bool.false_eq_true, false_iff, true_iff] at *; (try subst_vars); (try unfold mayP); (try simp only [Int.reduceEq, Int.reduceLE, false_and, and_false, true_and, and_true, false_or, or_false, true_or, or_true, not_true_eq_false, not_false_eq_true]); (try omega))
set_option maxHeartbeats 40000000 in
theorem mayr_main (op kd a n vk vi : Int) (vf : Nat) : funK Try.prog toldB2 100 20 9 [.agg (Array.mk [.int .i64 op, .int .i64 kd, .int .i64 a, .int .i64 n, .int .i64 vk, .int .i64 vi, .float .f64 vf])] st0 (fun r _ => r = .returned (.bool (mayB ⟨op, kd, a, n, ⟨vk, vi, vf⟩⟩))) := by
  rw [vc_mayr op kd a n vk vi vf fun r => r = .returned (.bool (mayB ⟨op, kd, a, n, ⟨vk, vi, vf⟩⟩))]
  simp only [bits0, bits0', valB_eq]
  unfold mayB
  repeat' (with_reducible refine br_of (fun _ => ?_) (fun _ => ?_))
  all_goals (refine ret_leaf ?_; simp only [beq_iff_eq, beq_eq_false_iff_ne, bne_iff_ne, bne_eq_false_iff_eq, decide_eq_true_eq, decide_eq_false_iff_not, Bool.and_eq_true, Bool.not_eq_true', Bool.not_eq_false', ne_eq, Bool.true_eq_false, Bool.false_eq_true, false_iff, true_iff] at *; (try subst_vars); (try unfold mayP); (try simp only [Int.reduceEq, Int.reduceLE, false_and, and_false, true_and, and_true, false_or, or_false, true_or, or_true, not_true_eq_false, not_false_eq_true]); (try omega))
noncomputable def maySpec : List Value → Option Value
  | [.agg vs] => match vs.toList with
    | [.int .i64 op, .int .i64 kd, .int .i64 a, .int .i64 n, .int .i64 vk, .int .i64 vi, .float .f64 vf] => some (.bool (mayB ⟨op, kd, a, n, ⟨vk, vi, vf⟩⟩))
    | _ => none
  | _ => none
theorem may_okS {P : Program} {C C0 : Told} {g : FuncId} (hm : P.follows .mixedOrders = true) (hC : ToldS P C) (h0 : ToldS P C0) (h : ∀ op kd a n vk vi vf, funK P C0 100 20 g [.agg (Array.mk [.int .i64 op, .int .i64 kd, .int .i64 a, .int .i64 n, .int .i64 vk, .int .i64 vi, .float .f64 vf])] st0 (fun r _ => r = .returned (.bool (mayB ⟨op, kd, a, n, ⟨vk, vi, vf⟩⟩)))) : ToldS P (C.also g maySpec) := by
  refine Told.also_ok hC ?_
  intro args v hv
  unfold maySpec at hv
  split at hv
  · rename_i vs
    split at hv
    · rename_i op kd a n vk vi vf e
      cases hv
      obtain ⟨vs⟩ := vs
      have e : vs = [.int .i64 op, .int .i64 kd, .int .i64 a, .int .i64 n, .int .i64 vk, .int .i64 vi, .float .f64 vf] := e
      subst e
      exact ⟨rfl, rfl, fun w args' ha => sym_is (fuel := 100) (n := 20) hm h0 (h op kd a n vk vi vf) w args' ha⟩
    · cases hv
  · cases hv
noncomputable def toldB3 : Told := (toldB2.also 8 maySpec).also 9 maySpec
theorem toldB3_ok : ToldS Try.prog toldB3 := may_okS follows (may_okS follows toldB2_ok toldB2_ok may_main) toldB2_ok mayr_main
end Go.Proofs.Ytncndnlbiijdoaa.Ev

/-! Bytes as data that lie in cells; rows of them as lists; slices.Equal. -/
set_option linter.unusedVariables false
set_option linter.unusedSimpArgs false
set_option maxRecDepth 1000000
namespace Go.Proofs.Ytncndnlbiijdoaa.Ev
open Go Go.Proofs Go.RowKit

structure U8 where
  v : Int
def u8E (a : U8) (_ : Nat) : Td := .sc (.int .u8 a.v)
def u8D (c : Nat → Td) : U8 := match c 0 with
  | .sc (.int .u8 a) => ⟨a⟩
  | _ => ⟨0⟩
def u8Ok (c : Nat → Td) : Bool := match c 0 with
  | .sc (.int .u8 a) => decide (0 ≤ a) && decide (a < 256)
  | _ => false
theorem u8Ok_inv {c : Nat → Td} (h : u8Ok c = true) : c 0 = .sc (.int .u8 (u8D c).v) ∧ 0 ≤ (u8D c).v ∧ (u8D c).v < 256 := by
  unfold u8Ok at h
  split at h
  · rename_i a h0
    simp only [Bool.and_eq_true, decide_eq_true_eq] at h
    simp only [u8D, h0]
    exact ⟨trivial, h.1, h.2⟩
  · cases h
instance encU : Enc U8 where
  es := 1
  enc := u8E
  dec := u8D
  ok := u8Ok
  dflt := ⟨0⟩
  good c := u8Ok c = true
  okgood c h := h
  law c h w F j y hj ht := by
    have : j = 0 := by omega
    subst this
    rw [(u8Ok_inv h).1] at ht
    exact ht
  back a := rfl
  mrg a b w F j y hj := ⟨fun h => h, fun h => h⟩
instance : EncM U8 where
  cong c c' h := by
    have h0 : c 0 = c' 0 := h 0 (by show 0 < 1; omega)
    exact ⟨by show u8D c = u8D c'; unfold u8D; rw [h0], by show u8Ok c = u8Ok c'; unfold u8Ok; rw [h0]⟩
  mt a b := ⟨rfl, rfl⟩
  mf a b := ⟨rfl, rfl⟩
theorem esU : Enc.es U8 = 1 := rfl
def okU (b : U8) : Bool := decide (0 ≤ b.v) && decide (b.v < 256)
theorem okA_u8 (a : U8) : okA U8 a = okU a := rfl
theorem okU_iff (a : U8) : okA U8 a = true ↔ 0 ≤ a.v ∧ a.v < 256 := by
  rw [okA_u8]; simp [okU]
def shU (_ : Nat) : Sh := .int .u8
theorem goodU (c : Nat → Td) (h : ∀ j, j < 1 → ShOk (shU j) (c j)) : Enc.good U8 c := by
  have h0 := h 0 (by omega)
  show u8Ok c = true
  unfold u8Ok
  revert h0
  cases c 0 with
  | fr => intro h; exact h.elim
  | sc x =>
    cases x with
    | int k n =>
      intro h
      obtain ⟨rfl, hw⟩ := h
      simp [Lit.wf, IntKind.min, IntKind.max, IntKind.signed, IntKind.bits] at hw
      show (decide (0 ≤ n) && decide (n < 256)) = true
      simp; omega
    | _ => intro h; exact h.elim
theorem goodU_all {t : Td} (h : goodT U8 t) : (listT U8 t).all (okA U8) = true := by
  rw [List.all_eq_true]
  refine goodT_all (p := fun b => okA U8 b = true) (fun c hc => ?_) h
  have := u8Ok_inv hc
  exact (okU_iff _).2 this.2
def natsU (l : List U8) : List Nat := l.map fun b => b.v.toNat
theorem natsU_len (l : List U8) : (natsU l).length = l.length := by simp [natsU]
theorem natsU_get {l : List U8} {i : Nat} (h : i < l.length) : (natsU l).getD i 0 = (l.getD i Enc.dflt).v.toNat := by
  simp [natsU, List.getD, h]
theorem all_getU {l : List U8} (h : l.all (okA U8) = true) {i : Nat} (hi : i < l.length) : 0 ≤ (l.getD i Enc.dflt).v ∧ (l.getD i Enc.dflt).v < 256 := by
  rw [List.all_eq_true] at h
  exact (okU_iff _).1 (h _ (by simp [List.getD, hi]))
def slE : List Nat := [0, 1, 12, 13]
def lvE : AX → List Nat := fun x => match x with
  | .ret => [4]
  | _ => slE
def FE (l m : List U8) (c d : Nat) (i : Int) : AFr := mkF 26 [(0, .slice (some ⟨0, 0, some 0⟩) l.length c), (1, .slice (some ⟨1, 0, some 0⟩) m.length d), (12, .int .i64 (Int.ofNat l.length)), (13, .int .i64 i)]
def SE (l m : List U8) : ASt := mkS [some (rowO .look l), some (rowO .look m)]
def FEr (q : Bool) : AFr := mkF 26 [(4, .bool q)]
def sameU (l m : List U8) : Bool := decide (l.length = m.length) && (List.range l.length).all fun i => decide ((l.getD i Enc.dflt).v = (m.getD i Enc.dflt).v)
def exE (l m : List U8) (c d : Nat) : Nat → Kt → Prop := fun b K => (sameU l m = true → K (.exit b) (FE l m c d l.length) (SE l m)) ∧ (sameU l m = false → K .ret (FEr false) (SE l m))
def shpE (l m : List U8) (c d : Nat) (i' : Int) : AFr × ASt := (FE l m c d i', SE l m)
def shpEr (l m : List U8) (q' : Bool) : AFr × ASt := (FEr q', SE l m)
theorem vc_eq (l m : List U8) (c d : Nat) (β : Bs) (K : AE → Prop) : lawE Try.prog toldB3 100 20 β (fun _ => 0) (cnOf 2 fun _ => slE) (exE l m c d) 27 [.slice (some ⟨0, 0, some 0⟩) l.length c, .slice (some ⟨1, 0, some 0⟩) m.length d] (mkS [some (rowO .look l), some (rowO .look m)]) (fun r _ => K r) =
(  br (Int.ofNat (List.length l) != Int.ofNat (List.length m)) (K (AE.returned (Value.bool false)))
  (LoopJ Try.prog β (exE l m c d) 0 (loopOf Try.prog 27 0) (FE l m c d (0 : Int)) (SE l m) ∧
  (sameU l m = true → K (AE.returned (Value.bool true))) ∧ (sameU l m = false → K (AE.returned (Value.bool false))))) := by kernel_rfl
theorem vc_eq_r (l m : List U8) (c d : Nat) (i : Int) (β : Bs) (N : Kt) (ex : Nat → Kt → Prop) : roundJ Try.prog toldB3 100 20 β (fun _ => 0) (cnOf 2 fun _ => slE) ex 27 0 2 lvE (FE l m c d i) (SE l m) N =
(  br (decide (i < Int.ofNat (List.length l)))
  (need (decide ((0 : Int) ≤ i))
  (need (Nat.blt (Int.toNat i) (List.length l))
  (need (Nat.ble 0 (0 + Int.toNat i) && Nat.blt (0 + Int.toNat i) (List.length l))
  (need (decide ((0 : Int) ≤ i))
  (need (Nat.blt (Int.toNat i) (List.length m))
  (need (Nat.ble 0 (0 + Int.toNat i) && Nat.blt (0 + Int.toNat i) (List.length m))
  (br
  (U8.v (List.getD l (0 + Int.toNat i) Enc.dflt) !=
  U8.v (List.getD m (0 + Int.toNat i) Enc.dflt))
  (onP N AX.ret (shpEr l m false))
  (onP N AX.normal (shpE l m c d (IntKind.wrap IntKind.i64 (i + (1 : Int))))))))))))
  (onP N (AX.exit 0) (shpE l m c d i))) := by kernel_rfl

theorem sameU_iff (l m : List U8) (h : l.length = m.length) : sameU l m = true ↔ ∀ i, i < l.length → (l.getD i Enc.dflt).v = (m.getD i Enc.dflt).v := by
  unfold sameU
  rw [decide_eq_true h, Bool.true_and, List.all_eq_true]
  exact ⟨fun h j hj => of_decide_eq_true (h j (List.mem_range.2 hj)), fun h j hj => decide_eq_true (h j (List.mem_range.1 hj))⟩
theorem u8_ext {a b : U8} (h : a.v = b.v) : a = b := by cases a; cases b; simp at h; subst h; rfl
theorem sameU_eq (l m : List U8) : sameU l m = true ↔ l = m := by
  constructor
  · intro h
    have hl : l.length = m.length := by
      unfold sameU at h
      rw [Bool.and_eq_true] at h
      exact of_decide_eq_true h.1
    have h2 := (sameU_iff l m hl).1 h
    apply List.ext_getElem hl
    intro i h1 h3
    have := h2 i h1
    simp [List.getD, h1, h3] at this
    exact u8_ext this
  · intro h
    subst h
    exact (sameU_iff l l rfl).2 fun _ _ => rfl
theorem sameU_self (l : List U8) : sameU l l = true := (sameU_eq l l).2 rfl
theorem eq_round {l m : List U8} {c d : Nat} {β : Bs} (hβ : β.X.length = 2) (hn : l.length = m.length) (hn6 : l.length ≤ 1000000) (K : Kt) (h1 : sameU l m = true → K (.exit 0) (FE l m c d l.length) (SE l m)) (h2 : sameU l m = false → K .ret (FEr false) (SE l m)) (k : Nat) (hk : k ≤ l.length ∧ ∀ j, j < k → (l.getD j Enc.dflt).v = (m.getD j Enc.dflt).v) :
    J Try.prog β (loopOf Try.prog 27 0) (FE l m c d k) (SE l m) (Nn β (fun k : Nat => k ≤ l.length ∧ ∀ j, j < k → (l.getD j Enc.dflt).v = (m.getD j Enc.dflt).v) (fun k => l.length - k) (fun k => FE l m c d k) (fun _ => SE l m) k K) := by
  refine roundJ_ok (E := 2) (lvs := fun _ => slE) (un := fun _ => 0) (fuel := 100) (n := 20) (ex := fun _ _ => False) follows toldB3_ok hβ (lv := lvE) ?_
  rw [vc_eq_r]
  by_cases hkn : k < l.length
  · have c1 : decide ((k : Int) < Int.ofNat l.length) = true := by simpa using hkn
    have c2 : decide ((0 : Int) ≤ (k : Int)) = true := by simp
    have e0 : Int.toNat (k : Int) = k := Int.toNat_natCast k
    have c3 : Nat.blt k l.length = true := by simpa using hkn
    have c4 : Nat.blt k m.length = true := by rw [← hn]; exact c3
    have c5 : Nat.ble 0 k = true := by simp
    have hw : IntKind.wrap .i64 ((k : Int) + 1) = ((k + 1 : Nat) : Int) := w64 (by omega) (by omega)
    simp only [c1, c2, e0, Nat.zero_add, c3, c4, c5, Bool.true_and, br_t, need_t, hw]
    refine br_of (fun q => Nn.ret (Seen.refl _ _ _) (h2 ?_)) (fun q => ?_)
    · cases hq : sameU l m with
      | false => rfl
      | true =>
        have := (sameU_iff l m hn).1 hq k hkn
        rw [this] at q
        simp at q
    · refine Nn.next (I := fun k : Nat => k ≤ l.length ∧ ∀ j, j < k → (l.getD j Enc.dflt).v = (m.getD j Enc.dflt).v) (m := fun k => l.length - k) (F := fun k : Nat => FE l m c d k) (S := fun _ => SE l m) (p := k) (k + 1) ⟨hkn, fun j hj => ?_⟩ (by omega) (Seen.refl _ _ _)
      by_cases hjk : j < k
      · exact hk.2 j hjk
      · have : j = k := by omega
        subst this
        simpa using q
  · have c1 : decide ((k : Int) < Int.ofNat l.length) = false := by simpa using hkn
    have hkn' : k = l.length := by omega
    simp only [c1, br_f]
    subst hkn'
    exact Nn.exit (Seen.refl _ _ _) (h1 ((sameU_iff l m hn).2 hk.2))
theorem equal_told : ToldW Try.prog 27 (ok2 U8 U8 fun _ _ _ _ => true) (ans2 U8 U8 fun l _ m _ => bAns (sameU l m)) := by
  refine told2 follows fun l c m d hl hc hm hd _ => ⟨toldB3, 100, 20, fun _ => 0, fun _ => slE, exE l m c d, toldB3_ok, fun β hβ => ?_⟩
  show lawE _ _ _ _ _ _ (cnOf 2 fun _ => slE) _ _ _ _ _
  have hK : ∀ b, sameU l m = b → ansE (bAns (sameU l m)) (.returned (.bool b)) st0 := fun b hb => by subst hb; exact bAns_ok _ _
  rw [bAns_any, vc_eq l m c d β fun r => ansE (bAns (sameU l m)) r st0]
  refine br_of (fun h => ?_) (fun h => ⟨?_, fun h1 => hK true h1, fun h1 => hK false h1⟩)
  · have : ¬ l.length = m.length := by simp at h; omega
    exact hK false (by simp only [sameU]; rw [decide_eq_false this, Bool.false_and])
  · have hn : l.length = m.length := by simp at h; omega
    exact loop_rule (fun k : Nat => k ≤ l.length ∧ ∀ j, j < k → (l.getD j Enc.dflt).v = (m.getD j Enc.dflt).v) (fun k => FE l m c d k) (fun _ => SE l m) (fun k => l.length - k) (fun k hk K hK => eq_round hβ hn hl K hK.1 hK.2 k hk) 0 ⟨Nat.zero_le _, fun j hj => by omega⟩
noncomputable def toldE : Told := toldB3.tree 27 (ok2 U8 U8 fun _ _ _ _ => true) (ans2 U8 U8 fun l _ m _ => bAns (sameU l m))
theorem toldE_ok : ToldS Try.prog toldE := Told.tree_ok toldB3_ok equal_told

theorem mid_get {α : Type} (l : List α) {k n i : Nat} (h : k + n ≤ l.length) (hi : i < n) (d : α) : ((l.drop k).take n)[i]? = some (l.getD (k + i) d) := by
  rw [List.getElem?_take, if_pos hi, List.getElem?_drop]
  simp [List.getD, show k + i < l.length by omega]
theorem decL_mid {α : Type} [Enc α] (l : List α) {k n : Nat} (h : k + n ≤ l.length) : decL n (fun i => encL l (k + i)) = (l.drop k).take n := by
  apply List.ext_getElem?
  intro i
  unfold decL
  rw [List.getElem?_map]
  rcases Nat.lt_or_ge i n with hi | hi
  · rw [List.getElem?_range hi, mid_get l h hi Enc.dflt]
    simp only [Option.map_some]
    have : Enc.dec (encL l (k + i)) = l.getD (k + i) Enc.dflt := Enc.back _
    rw [this]
  · rw [List.getElem?_eq_none (by simpa using hi), List.getElem?_eq_none (by simp; omega)]; rfl
theorem mid_len {α : Type} (l : List α) {k n : Nat} (h : k + n ≤ l.length) : ((l.drop k).take n).length = n := by simp; omega
theorem mid_all {l : List U8} (hl : l.all (okA U8) = true) (k n : Nat) : ((l.drop k).take n).all (okA U8) = true := by
  rw [List.all_eq_true] at hl ⊢
  exact fun x hx => hl x (List.mem_of_mem_drop (List.mem_of_mem_take hx))
theorem listU_mid (l : List U8) {k n : Nat} (c : Nat) (h : k + n ≤ l.length) : listT U8 (Td.fr 1 n c fun i => encL l (k + i)) = (l.drop k).take n := decL_mid l h
theorem okT_mid {l : List U8} (hl : l.all (okA U8) = true) {k n c : Nat} (h : k + n ≤ l.length) (hn : n ≤ 1000000) (hc : c ≤ 1) : okT U8 (Td.fr 1 n c fun i => encL l (k + i)) = true := by
  simp only [okT, Bool.or_eq_true, Bool.and_eq_true]
  refine .inl ⟨⟨⟨Nat.beq_refl _, okL_of fun i hi => ?_⟩, Nat.ble_eq_true_of_le hc⟩, Nat.ble_eq_true_of_le hn⟩
  exact (okU_iff _).2 (all_getU hl (by omega))
def strU (l : List U8) : ByteArray := ⟨(l.map fun b => UInt8.ofNat b.v.toNat).toArray⟩
theorem strOf_mid (l : List U8) {k n : Nat} (h : k + n ≤ l.length) : strOf n (fun j => encL l (k + j)) = strU ((l.drop k).take n) := by
  unfold strOf strU
  congr 2
  apply List.ext_getElem?
  intro i
  rw [List.getElem?_map, List.getElem?_map]
  rcases Nat.lt_or_ge i n with hi | hi
  · rw [List.getElem?_range hi, mid_get l h hi Enc.dflt]; rfl
  · rw [List.getElem?_eq_none (by simpa using hi), List.getElem?_eq_none (by simp; omega)]; rfl
theorem strOf_all (l : List U8) : strOf l.length (encL l) = strU l := by
  have := strOf_mid l (k := 0) (n := l.length) (by omega)
  simp only [Nat.zero_add, List.drop_zero, List.take_length] at this
  exact this
theorem strU_inj {l m : List U8} (hl : l.all (okA U8) = true) (hm : m.all (okA U8) = true) : strU l = strU m ↔ l = m := by
  constructor
  · intro h
    unfold strU at h
    have h1 : (l.map fun b => UInt8.ofNat b.v.toNat) = m.map fun b => UInt8.ofNat b.v.toNat := by
      have := congrArg ByteArray.data h
      simpa using this
    have hlen : l.length = m.length := by
      have := congrArg List.length h1
      simpa using this
    apply List.ext_getElem hlen
    intro i h2 h3
    have h4 := congrArg (fun q => q[i]?) h1
    simp only [List.getElem?_map, List.getElem?_eq_getElem h2, List.getElem?_eq_getElem h3, Option.map_some, Option.some.injEq] at h4
    have a1 := all_getU hl h2
    have a2 := all_getU hm h3
    simp only [List.getD, List.getElem?_eq_getElem h2, List.getElem?_eq_getElem h3, Option.getD_some] at a1 a2
    have h5 := congrArg UInt8.toNat h4
    simp only [UInt8.toNat_ofNat'] at h5
    exact u8_ext (by omega)
  · intro h; rw [h]
theorem allB_mid (l : List U8) (n k : Nat) : allB n (fun j => encL l (k + j)) = true := by
  unfold allB
  rw [List.all_eq_true]
  exact fun _ _ => rfl
theorem allB_all (l : List U8) (n : Nat) : allB n (encL l) = true := by
  unfold allB
  rw [List.all_eq_true]
  exact fun _ _ => rfl
/-! ### frames -/
def byU (n : Nat) : U8 := ⟨((n % 256 : Nat) : Int)⟩
theorem byU_ok (n : Nat) : okA U8 (byU n) = true := (okU_iff _).2 ⟨by simp [byU]; omega, by simp [byU]; omega⟩
def num2 (n : Nat) : List U8 := [byU (n / 256), byU n]
def num4 (n : Nat) : List U8 := [byU (n / 16777216), byU (n / 65536), byU (n / 256), byU n]
theorem num2_ok (n : Nat) : (num2 n).all (okA U8) = true := by simp [num2, byU_ok]
theorem num4_ok (n : Nat) : (num4 n).all (okA U8) = true := by simp [num4, byU_ok]
theorem wrap8 (n : Nat) : IntKind.wrap .u8 (n : Int) = ((n % 256 : Nat) : Int) := by
  unfold IntKind.wrap
  simp [IntKind.signed, IntKind.bits]
theorem wrap32 {n : Nat} (h : n < 4294967296) : IntKind.wrap .u32 (n : Int) = n := by
  unfold IntKind.wrap
  simp [IntKind.signed, IntKind.bits]
  omega
theorem wrap64u {n : Nat} (h : n < 18446744073709551616) : IntKind.wrap .u64 (n : Int) = n := by
  unfold IntKind.wrap
  simp [IntKind.signed, IntKind.bits]
  omega
theorem fdivN (n k : Nat) : Int.fdiv (n : Int) (k : Int) = ((n / k : Nat) : Int) := (Int.ofNat_fdiv n k).symm
theorem by_fdiv (n k : Nat) : IntKind.wrap .u8 (Int.fdiv (n : Int) (k : Int)) = (byU (n / k)).v := by
  rw [fdivN, wrap8]; rfl

def isU (t : Td) : Prop := ∃ v : Int, t = .sc (.int .u8 v)
theorem mrgU {t u : Td} (ht : isU t) (hu : isU u) : mrgT true t u = t ∧ mrgT false t u = u ∧ ∀ b, isU (mrgT b t u) := by
  obtain ⟨v, rfl⟩ := ht
  obtain ⟨v', rfl⟩ := hu
  exact ⟨rfl, rfl, fun b => ⟨cond b v v', rfl⟩⟩
structure RowU (e : Nat → Nat → Td) (n : Nat) (L : List U8) : Prop where
  len : n = L.length
  at_ : ∀ i, i < n → e i 0 = encL L i 0
  u : ∀ i, isU (e i 0)
theorem RowU.enc (L : List U8) : RowU (encL L) L.length L := ⟨rfl, fun _ _ => rfl, fun i => ⟨_, rfl⟩⟩
theorem RowU.zero (n : Nat) : RowU (fun _ k => nthT [.sc (.int .u8 0)] k) n (List.replicate n ⟨0⟩) := ⟨by simp, fun i hi => by simp [encL, List.getD, hi]; rfl, fun i => ⟨0, rfl⟩⟩
theorem RowU.sel2 (v0 v1 : Int) : RowU (fun i k => selT 1 (1 + 1) [.sc (.int .u8 v0), .sc (.int .u8 v1)] i k) (1 + 1) [⟨v0⟩, ⟨v1⟩] := ⟨rfl, fun i hi => match i, hi with
  | 0, _ => rfl
  | 1, _ => rfl, fun i => ⟨_, rfl⟩⟩
theorem RowU.sel4 (v0 v1 v2 v3 : Int) : RowU (fun i k => selT 1 (1 + 1 + 1 + 1) [.sc (.int .u8 v0), .sc (.int .u8 v1), .sc (.int .u8 v2), .sc (.int .u8 v3)] i k) (1 + 1 + 1 + 1) [⟨v0⟩, ⟨v1⟩, ⟨v2⟩, ⟨v3⟩] := ⟨rfl, fun i hi => match i, hi with
  | 0, _ => rfl
  | 1, _ => rfl
  | 2, _ => rfl
  | 3, _ => rfl, fun i => ⟨_, rfl⟩⟩
theorem RowU.app {e1 e2 : Nat → Nat → Td} {n1 n2 : Nat} {L1 L2 : List U8} (h1 : RowU e1 n1 L1) (h2 : RowU e2 n2 L2) : RowU (fun i k => mrgT (Nat.blt i n1) (e1 i k) (e2 (i - n1) k)) (n1 + n2) (L1 ++ L2) := by
  refine ⟨by rw [h1.len, h2.len, List.length_append], fun i hi => ?_, fun i => (mrgU (h1.u i) (h2.u _)).2.2 _⟩
  have hu := mrgU (h1.u i) (h2.u (i - n1))
  by_cases hil : i < n1
  · have hb : Nat.blt i n1 = true := by simpa using hil
    show mrgT (Nat.blt i n1) _ _ = _
    rw [hb, hu.1, h1.at_ i hil, encL_app_lt _ _ (by rw [← h1.len]; exact hil)]
  · show mrgT (Nat.blt i n1) _ _ = _
    rw [blt_false hil, hu.2.1, h2.at_ _ (by omega), encL_app_ge _ _ (by rw [← h1.len]; omega), ← h1.len]
theorem RowU.sub {e : Nat → Nat → Td} {n k m : Nat} {L : List U8} (h : RowU e n L) (hk : k + m ≤ n) : RowU (fun i => e (k + i)) m ((L.drop k).take m) := by
  have hl := h.len
  refine ⟨by simp; omega, fun i hi => ?_, fun i => h.u _⟩
  show e (k + i) 0 = _
  rw [h.at_ _ (by omega)]
  show Enc.enc (L.getD (k + i) Enc.dflt) 0 = Enc.enc (((L.drop k).take m).getD i Enc.dflt) 0
  have := mid_get L (k := k) (n := m) (i := i) (by omega) hi Enc.dflt
  simp only [List.getD] at this ⊢
  rw [this]; rfl
theorem RowU.put {e : Nat → Nat → Td} {n i0 : Nat} {v : Int} {L : List U8} (h : RowU e n L) (hi : i0 < n) : RowU (putT i0 0 [.sc (.int .u8 v)] e) n (L.set i0 ⟨v⟩) := by
  have hl := h.len
  refine ⟨by simp [hl], fun i hi' => ?_, fun i => (mrgU ⟨v, rfl⟩ (h.u i)).2.2 _⟩
  have hu := mrgU (t := .sc (.int .u8 v)) ⟨v, rfl⟩ (h.u i)
  show mrgT (Nat.beq i i0) (.sc (.int .u8 v)) (e i 0) = Enc.enc ((L.set i0 ⟨v⟩).getD i Enc.dflt) 0
  by_cases hii : i = i0
  · subst hii
    rw [Nat.beq_refl, hu.1]
    have : (L.set i ⟨v⟩).getD i Enc.dflt = ⟨v⟩ := by simp [List.getD, show i < L.length by omega]
    rw [this]; rfl
  · rw [beq_false hii, hu.2.1, h.at_ i hi']
    have : (L.set i0 ⟨v⟩).getD i Enc.dflt = L.getD i Enc.dflt := by simp [List.getD, List.getElem?_set_ne (Ne.symm hii)]
    rw [this]; rfl
theorem RowU.to {e : Nat → Nat → Td} {n m : Nat} {L M : List U8} (h : RowU e n L) (hn : m = n) (hL : L = M) : RowU e m M := by subst hn hL; exact h
theorem RowU.list {e : Nat → Nat → Td} {n c : Nat} {L : List U8} (h : RowU e n L) : listT U8 (Td.fr 1 n c e) = L := by
  have hl := h.len
  subst hl
  show decL L.length e = L
  rw [decL_congr (e' := encL L) fun i hi => by show u8D (e i) = u8D (encL L i); unfold u8D; rw [h.at_ i hi]]
  exact decL_encL L
theorem RowU.okT {e : Nat → Nat → Td} {n c : Nat} {L : List U8} (h : RowU e n L) (hok : L.all (okA U8) = true) (hn : n ≤ 1000000) (hc : c ≤ 1) : Ev.okT U8 (Td.fr 1 n c e) = true := by
  have hl := h.len
  subst hl
  simp only [Ev.okT, Bool.or_eq_true, Bool.and_eq_true]
  refine .inl ⟨⟨⟨Nat.beq_refl _, ?_⟩, Nat.ble_eq_true_of_le hc⟩, Nat.ble_eq_true_of_le hn⟩
  rw [okL_congr (e' := encL L) fun i hi => by show u8Ok (e i) = u8Ok (encL L i); unfold u8Ok; rw [h.at_ i hi]]
  exact okL_encL hok
theorem RowU.ok1 {e : Nat → Nat → Td} {n c : Nat} {L : List U8} (h : RowU e n L) (hok : L.all (okA U8) = true) (hn : n ≤ 1000000) (hc : c ≤ 1) : Ev.ok1 U8 (fun l _ => l.all (okA U8)) [Ta.cell (Td.fr 1 n c e)] = true := by
  show (Ev.okT U8 _ && (listT U8 _).all (okA U8)) = true
  rw [h.okT hok hn hc, h.list, hok]; rfl
theorem RowU.obj {e : Nat → Nat → Td} {n : Nat} {L : List U8} (h : RowU e n L) {k : Rk} (ρ : Rho) (s : Spot) (w : World) (ho : ObjR ρ (.row k 1 0 n e) s w) : ObjR ρ (rowO k L) s w := by
  have hl := h.len
  subst hl
  refine ho.row_TR rfl fun i _ hi j hj F y ht => ?_
  have hj : j < 1 := hj
  have : j = 0 := by omega
  subst this
  rw [h.at_ i hi] at ht
  exact ht
theorem RowU.str {e : Nat → Nat → Td} {n : Nat} {L : List U8} (h : RowU e n L) : strOf n e = strU L := by
  have hl := h.len
  subst hl
  rw [← strOf_all]
  unfold strOf
  congr 2
  exact List.map_congr_left fun i hi => by rw [h.at_ i (List.mem_range.1 hi)]
theorem RowU.allB {e : Nat → Nat → Td} {n m : Nat} {L : List U8} (h : RowU e n L) : Ev.allB m e = true := by
  unfold Ev.allB
  rw [List.all_eq_true]
  intro i _
  obtain ⟨v, hv⟩ := h.u i
  rw [hv]; rfl
/-- an answer that is a row of bytes of one's own -/
theorem RowU.leaf {e : Nat → Nat → Td} {n k : Nat} {L : List U8} {l : List (Option AObj)} (h : RowU e n L) (hl : l[k]? = some (some (.row .mine 1 0 n e))) : objsR l (atL l.length k (rowO .mine L)) := outAt hl rfl h.obj
def bytesU (l : List U8) : List UInt8 := l.map fun b => UInt8.ofNat b.v.toNat
theorem bytes_mid (l : List U8) {k n : Nat} (h : k + n ≤ l.length) : List.map (fun j => byteF (encL l (k + j) 0)) (List.range n) = bytesU ((l.drop k).take n) := by
  have := strOf_mid l h
  unfold strOf strU at this
  have := congrArg ByteArray.data this
  simpa [bytesU] using this
theorem bytes_all (l : List U8) : List.map (fun j => byteF (encL l j 0)) (List.range l.length) = bytesU l := by
  have := bytes_mid l (k := 0) (n := l.length) (by omega)
  simp only [Nat.zero_add, List.drop_zero, List.take_length] at this
  exact this
theorem bytes_take (l : List U8) {n : Nat} (h : n ≤ l.length) : List.map (fun j => byteF (encL l j 0)) (List.range n) = bytesU (l.take n) := by
  have := bytes_mid l (k := 0) (n := n) (by omega)
  simp only [Nat.zero_add, List.drop_zero] at this
  exact this
theorem bytesU_inj {l m : List U8} (hl : l.all (okA U8) = true) (hm : m.all (okA U8) = true) : bytesU l = bytesU m ↔ l = m := by
  rw [← strU_inj hl hm]
  unfold strU bytesU
  exact ⟨fun h => by rw [h], fun h => by have := congrArg ByteArray.data h; simpa using this⟩
theorem bytesU_beq {l m : List U8} (hl : l.all (okA U8) = true) (hm : m.all (okA U8) = true) : (bytesU l == bytesU m) = sameU l m := by
  rw [Bool.eq_iff_iff, beq_iff_eq, bytesU_inj hl hm, sameU_eq]
theorem take_all {l : List U8} (h : l.all (okA U8) = true) (n : Nat) : (l.take n).all (okA U8) = true := by
  have := mid_all h 0 n
  simpa using this
theorem ok1_mid {l : List U8} (hl : l.all (okA U8) = true) {k n c : Nat} (h : k + n ≤ l.length) (hn : n ≤ 1000000) (hc : c ≤ 1) : ok1 U8 (fun l _ => l.all (okA U8)) [Ta.cell (Td.fr 1 n c fun i => encL l (k + i))] = true := by
  show (okT U8 _ && (listT U8 _).all (okA U8)) = true
  rw [okT_mid hl h hn hc, listU_mid l c h, mid_all hl]; rfl
theorem lU (l : List U8) (c : Nat) : listT U8 (Td.fr 1 l.length c (encL l)) = l := listT_tdL l c
theorem ok1U {l : List U8} {c : Nat} (hok : l.all (okA U8) = true) (hl : l.length ≤ 1000000) (hc : c ≤ 1) : ok1 U8 (fun l _ => l.all (okA U8)) [Ta.cell (Td.fr 1 l.length c (encL l))] = true := (RowU.enc l).ok1 hok hl hc
theorem md (n : Nat) : IntKind.wrap .u8 (Int.tmod (n : Int) 256) = (byU n).v := by
  have : Int.tmod (n : Int) 256 = ((n % 256 : Nat) : Int) := (Int.ofNat_tmod n 256).symm
  rw [this, wrap8, Nat.mod_mod]; rfl
theorem dv {n : Nat} (h : n < 4294967296) : IntKind.wrap .u64 (Int.tdiv (n : Int) 256) = ((n / 256 : Nat) : Int) := by
  have : Int.tdiv (n : Int) 256 = ((n / 256 : Nat) : Int) := (Int.ofNat_tdiv n 256).symm
  rw [this]; exact wrap64u (by omega)
theorem dv3 (n : Nat) : n / 256 / 256 / 256 = n / 16777216 := by omega
theorem dv2 (n : Nat) : n / 256 / 256 = n / 65536 := by omega
theorem fd1 (n : Nat) : IntKind.wrap .u8 (Int.fdiv (n : Int) 1) = (byU n).v := by
  have := by_fdiv n 1
  rw [Nat.div_one] at this; exact this
theorem fd256 (n : Nat) : IntKind.wrap .u8 (Int.fdiv (n : Int) 256) = (byU (n / 256)).v := by_fdiv n 256
theorem fd65 (n : Nat) : IntKind.wrap .u8 (Int.fdiv (n : Int) 65536) = (byU (n / 65536)).v := by_fdiv n 65536
theorem fd16 (n : Nat) : IntKind.wrap .u8 (Int.fdiv (n : Int) 16777216) = (byU (n / 16777216)).v := by_fdiv n 16777216
theorem told1' {g : FuncId} {p : List U8 → Nat → Bool} {A : List U8 → Nat → Ans}
    (h : ∀ (l : List U8) (c : Nat), l.length ≤ 1000000 → c ≤ 1 → p l c = true → ∃ (C : Told) (fuel n : Nat) (un : Nat → Nat) (lvs : Nat → List Nat) (ex : Nat → Kt → Prop), ToldS Try.prog C ∧ ∀ β : Bs, β.X.length = 1 → lawE Try.prog C fuel n β un (cnOf 1 lvs) ex g [.slice (some ⟨0, 0, some 0⟩) l.length c] (mkS [some (rowO .look l)]) (outR (ansE (A l c)))) : ToldW Try.prog g (ok1 U8 p) (ans1 U8 A) := by
  intro ts hok w args' F hF ha
  unfold ok1 at hok
  split at hok
  · rename_i t
    simp only [Bool.and_eq_true] at hok
    obtain ⟨h1, h2⟩ := okT_len hok.1
    obtain ⟨y, m, e, hy, hm'⟩ := ha.uncons
    have := hm'.nil_inv
    subst this
    have ha' : PW (TaR w F) [.cell (tdL (listT U8 t) (nilT t))] args'.toList := by rw [e]; exact PW.cons (okT_TRo hok.1 hy) (PW.nil _)
    exact toldW_out (ts := [.cell (tdL (listT U8 t) (nilT t))]) follows (h _ _ h1 h2 hok.2) w args' F hF ha'
  · cases hok
theorem drop_getD {α : Type} (l : List α) (k i : Nat) (d : α) : (l.drop k).getD i d = l.getD (k + i) d := by
  simp [List.getD, List.getElem?_drop]
theorem encL_drop {α : Type} [Enc α] (l : List α) (k i j : Nat) : encL (l.drop k) i j = encL l (k + i) j := by
  unfold encL; rw [drop_getD]
theorem listU_drop (l : List U8) (c : Nat) {k : Nat} (h : k ≤ l.length) : listT U8 (Td.fr 1 (l.length - k) c fun i => encL l (k + i)) = l.drop k := by
  rw [listU_mid l c (by omega), List.take_of_length_le (by simp)]
/-- named anew -/
theorem Seen.canon {β : Bs} {E : Nat} {slots : List Nat} {f F : AFr} {st S : ASt} (hβ : β.X.length = E) (h : ∀ K : AFr → ASt → Prop, canonK E slots K f st = K F S) : Seen β f st F S := fun ρ a w hr => by
  have h1 : canonK E slots (fun f1 st1 => f1 = F ∧ st1 = S) f st := by rw [h]; exact ⟨rfl, rfl⟩
  obtain ⟨ρ', f', st', ⟨rfl, rfl⟩, h2⟩ := canonK_ok h1 hβ hr
  exact ⟨ρ', h2⟩
/-- two rows of data, one behind the other -/
theorem row_app2 {α : Type} [Enc α] {k : Rk} {l m : List α} {es : Nat} {ρ : Rho} {s : Spot} {w : World} (hes : es = Enc.es α)
    (ho : ObjR ρ (.row k es 0 (l.length + m.length) fun i j => mrgT (Nat.blt i l.length) (encL l i j) (encL m (i - l.length) j)) s w) : ObjR ρ (.row k es 0 (l ++ m).length (encL (l ++ m))) s w := by
  subst hes
  refine ho.row_TR (by simp) fun i _ hi j hj F y ht => ?_
  by_cases hil : i < l.length
  · have hb : Nat.blt i l.length = true := by simpa using hil
    rw [hb] at ht
    show TR w F (Enc.enc ((l ++ m).getD i Enc.dflt) j) y
    rw [getD_app_lt _ _ _ hil]
    exact (Enc.mrg _ _ w F j y hj).1 ht
  · rw [blt_false hil] at ht
    show TR w F (Enc.enc ((l ++ m).getD i Enc.dflt) j) y
    rw [getD_app_ge _ _ _ (by omega)]
    exact (Enc.mrg _ _ w F j y hj).2 ht
theorem okT_enc {l : List U8} {c : Nat} (h : l.all (okA U8) = true) (hl : l.length ≤ 1000000) (hc : c ≤ 1) : okT U8 (Td.fr 1 l.length c (encL l)) = true := okT_tdL h hl hc
end Go.Proofs.Ytncndnlbiijdoaa.Ev
