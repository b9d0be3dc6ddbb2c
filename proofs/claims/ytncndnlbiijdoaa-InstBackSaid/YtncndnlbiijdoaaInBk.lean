/-
  What has to hold: printed by the evaluator.
-/
import Derived.Test.YtncndnlbiijdoaaInZc
set_option linter.unusedVariables false
/-! What has to hold: printed by the evaluator. -/
set_option linter.unusedVariables false
set_option maxRecDepth 1000000
namespace Go.Proofs.Ytncndnlbiijdoaa.Ev
open Go Go.Proofs
noncomputable def mF (l : List In) : List In := l.filter mayB
def slBk : List Nat := [0, 1, 2, 7, 8]
def lvBk : AX → List Nat := fun x => match x with
  | .ret => [6]
  | _ => slBk
def FBk (l m : List In) (c d : Nat) (cut more i : Int) : AFr := mkF 84 [(0, .slice (some ⟨0, 0, some 0⟩) l.length c), (1, .int .u16 cut), (2, .int .u8 more), (7, .slice (some ⟨1, 0, some 0⟩) m.length d), (8, .int .i64 i)]
def SBk (l m : List In) : ASt := mkS [some (rowO .still l), some (rowO .mine m)]
def exBk (l : List In) (c : Nat) (cut more : Int) : Nat → Kt → Prop := fun x K => K (.exit x) (FBk l (mF l) c 1 cut more l.length) (SBk l (mF l))
def shpBk (l m : List In) (c d : Nat) (cut more i' : Int) : AFr × ASt := (FBk l m c d cut more i', SBk l m)
theorem vc_bk_r (l m : List In) (c d : Nat) (cut more i : Int) (β : Bs) (N : Kt) (ex : Nat → Kt → Prop) : roundJ Try.prog toldV1 100 20 β (fun _ => 0) (cnOf 1 fun _ => slBk) ex 4 0 1 lvBk (FBk l m c d cut more i) (SBk l m) N =
(  br (decide (i < Int.ofNat (List.length l)))
  (need (decide ((0 : Int) ≤ i))
  (need (Nat.blt (Int.toNat i) (List.length l))
  (need (Nat.ble 0 (0 + Int.toNat i) && Nat.blt (0 + Int.toNat i) (List.length l))
  (br
  (mayB
  (In.mk (In.op (List.getD l (0 + Int.toNat i) Enc.dflt))
  (In.kd (List.getD l (0 + Int.toNat i) Enc.dflt))
  (In.a (List.getD l (0 + Int.toNat i) Enc.dflt))
  (In.n (List.getD l (0 + Int.toNat i) Enc.dflt))
  (Vl.mk (Vl.k (In.v (List.getD l (0 + Int.toNat i) Enc.dflt)))
  (Vl.i (In.v (List.getD l (0 + Int.toNat i) Enc.dflt)))
  (Vl.f (In.v (List.getD l (0 + Int.toNat i) Enc.dflt))))))
  (need (decide ((0 : Int) ≤ i))
  (need (Nat.blt (Int.toNat i) (List.length l))
  (need (Nat.ble 0 (0 + Int.toNat i) && Nat.blt (0 + Int.toNat i) (List.length l))
  (need (Nat.ble (List.length m + 1) 1000000)
  (need (true && Nat.ble (0 + List.length m) (List.length m))
  (N AX.normal
  (mkF 84
  [(0,
  Value.slice (some (Addr.mk 0 0 (some 0))) (List.length l) c),
  (1, Value.int IntKind.u16 cut), (2, Value.int IntKind.u8 more),
  (7,
  Value.slice (some (Addr.mk 1 0 (some 0)))
  (List.length m + 1) d),
  (8, Value.int IntKind.i64 (IntKind.wrap IntKind.i64 (i + (1 : Int))))])
  (mkS
  [some (AObj.row Rk.still 7 0 (List.length l) (encL l)),
  some
  (AObj.row Rk.mine 7 0 (List.length m + 1) fun j k =>
  mrgT (Nat.blt j (List.length m)) (encL m (0 + j) k)
  (selT 7 1
  [Td.sc
  (Value.int IntKind.i64 (In.op (List.getD l (0 + Int.toNat i) Enc.dflt))),
  Td.sc
  (Value.int IntKind.i64 (In.kd (List.getD l (0 + Int.toNat i) Enc.dflt))),
  Td.sc
  (Value.int IntKind.i64 (In.a (List.getD l (0 + Int.toNat i) Enc.dflt))),
  Td.sc
  (Value.int IntKind.i64 (In.n (List.getD l (0 + Int.toNat i) Enc.dflt))),
  Td.sc
  (Value.int IntKind.i64
  (Vl.k (In.v (List.getD l (0 + Int.toNat i) Enc.dflt)))),
  Td.sc
  (Value.int IntKind.i64
  (Vl.i (In.v (List.getD l (0 + Int.toNat i) Enc.dflt)))),
  Td.sc
  (Value.float FloatKind.f64
  (Vl.f (In.v (List.getD l (0 + Int.toNat i) Enc.dflt))))]
  (j - List.length m) k))])))))))
  (onP N AX.normal (shpBk l m c d cut more (IntKind.wrap IntKind.i64 (i + (1 : Int)))))))))
  (onP N (AX.exit 0) (shpBk l m c d cut more i))) := by kernel_rfl
theorem vc_bk (l : List In) (c : Nat) (cut more : Int) (β : Bs) : lawE Try.prog toldV1 100 20 β (fun _ => 0) (cnOf 1 fun _ => slBk) (exBk l c cut more) 4 [.slice (some ⟨0, 0, some 0⟩) l.length c, .int .u16 cut, .int .u8 more] (mkS [some (rowO .still l)]) trueE =
(  br (decide (Int.ofNat (List.length l) > (20 : Int))) True
  (LoopJ Try.prog β (exBk l c cut more) 0 (loopOf Try.prog 4 0)
  (mkF 84
  [(0, Value.slice (some (Addr.mk 0 0 (some 0))) (List.length l) c),
  (1, Value.int IntKind.u16 cut), (2, Value.int IntKind.u8 more),
  (7, Value.slice none 0 0), (8, Value.int IntKind.i64 (0 : Int))])
  (mkS [some (AObj.row Rk.still 7 0 (List.length l) (encL l))]) ∧
  need (true && Nat.ble (0 + List.length (mF l)) (List.length (mF l)))
  (need
  (ok1 In (fun l x => List.all l (okA In))
  [Ta.cell (Td.fr 7 (List.length (mF l)) 1 fun i => encL (mF l) (0 + i))])
  (br
  (decide
  (Int.ofNat
  (List.length
  (ipL
  (listT In (Td.fr 7 (List.length (mF l)) 1 fun i => encL (mF l) (0 + i))))) <
  (2 : Int)))
  False
  (need
  (true &&
  Nat.ble
  (0 +
  List.length
  (ipL
  (listT In (Td.fr 7 (List.length (mF l)) 1 fun i => encL (mF l) (0 + i)))))
  (List.length
  (ipL
  (listT In (Td.fr 7 (List.length (mF l)) 1 fun i => encL (mF l) (0 + i))))))
  (need
  (ok1 U8 (fun l x => List.all l (okA U8))
  [Ta.cell
  (Td.fr 1
  (List.length
  (ipL
  (listT In
  (Td.fr 7 (List.length (mF l)) 1 fun i => encL (mF l) (0 + i)))))
  (ipC
  (listT In
  (Td.fr 7 (List.length (mF l)) 1 fun i => encL (mF l) (0 + i))))
  fun i =>
  encL
  (ipL
  (listT In
  (Td.fr 7 (List.length (mF l)) 1 fun i => encL (mF l) (0 + i))))
  (0 + i))])
  (need
  (true &&
  !decide
  (Int.ofNat
  (List.length
  (ipL
  (listT In
  (Td.fr 7 (List.length (mF l)) 1 fun i =>
  encL (mF l) (0 + i))))) =
  (0 : Int)))
  (need
  (decide
  ((0 : Int) ≤
  Int.tmod (IntKind.wrap IntKind.i64 cut)
  (Int.ofNat
  (List.length
  (ipL
  (listT In
  (Td.fr 7 (List.length (mF l)) 1 fun i =>
  encL (mF l) (0 + i))))))))
  (need
  (Nat.ble
  (Int.toNat
  (Int.tmod (IntKind.wrap IntKind.i64 cut)
  (Int.ofNat
  (List.length
  (ipL
  (listT In
  (Td.fr 7 (List.length (mF l)) 1 fun i =>
  encL (mF l) (0 + i))))))))
  (List.length
  (ipL
  (listT In
  (Td.fr 7 (List.length (mF l)) 1 fun i => encL (mF l) (0 + i))))))
  (need
  (true &&
  Nat.ble
  (0 +
  (Int.toNat
  (Int.tmod (IntKind.wrap IntKind.i64 cut)
  (Int.ofNat
  (List.length
  (ipL
  (listT In
  (Td.fr 7 (List.length (mF l)) 1 fun i =>
  encL (mF l) (0 + i))))))) -
  0))
  (List.length
  (ipL
  (listT In
  (Td.fr 7 (List.length (mF l)) 1 fun i =>
  encL (mF l) (0 + i))))))
  (need
  (ok1 U8 (fun l x => List.all l (okA U8))
  [Ta.cell
  (Td.fr 1
  (Int.toNat
  (Int.tmod (IntKind.wrap IntKind.i64 cut)
  (Int.ofNat
  (List.length
  (ipL
  (listT In
  (Td.fr 7 (List.length (mF l)) 1 fun i =>
  encL (mF l) (0 + i))))))) -
  0)
  (bif
  Nat.beq
  (List.length
  (ipL
  (listT In
  (Td.fr 7 (List.length (mF l)) 1 fun i =>
  encL (mF l) (0 + i)))))
  0 then
  ipC
  (listT In
  (Td.fr 7 (List.length (mF l)) 1 fun i =>
  encL (mF l) (0 + i)))
  else 0)
  fun i =>
  encL
  (ipL
  (listT In
  (Td.fr 7 (List.length (mF l)) 1 fun i =>
  encL (mF l) (0 + i))))
  (0 + i))])
  (need
  (true &&
  Nat.ble
  (0 +
  List.length
  (ipL
  (listT In
  (Td.fr 7 (List.length (mF l)) 1 fun i =>
  encL (mF l) (0 + i)))))
  (List.length
  (ipL
  (listT In
  (Td.fr 7 (List.length (mF l)) 1 fun i =>
  encL (mF l) (0 + i))))))
  (need
  (Nat.ble
  (0 +
  List.length
  (ipL
  (listT In
  (Td.fr 7 (List.length (mF l)) 1 fun i =>
  encL (mF l) (0 + i)))))
  1000000)
  (need
  (Nat.ble
  (List.length
  (ipL
  (listT In
  (Td.fr 7 (List.length (mF l)) 1 fun i =>
  encL (mF l) (0 + i)))) +
  1)
  1000000)
  (need
  (true &&
  Nat.ble
  (0 +
  List.length
  (ipL
  (listT In
  (Td.fr 7 (List.length (mF l)) 1 fun i =>
  encL (mF l) (0 + i)))))
  (List.length
  (ipL
  (listT In
  (Td.fr 7 (List.length (mF l)) 1 fun i =>
  encL (mF l) (0 + i))))))
  (need
  (true &&
  Nat.ble
  (0 +
  (List.length
  (ipL
  (listT In
  (Td.fr 7 (List.length (mF l)) 1 fun i =>
  encL (mF l) (0 + i)))) +
  1))
  (List.length
  (ipL
  (listT In
  (Td.fr 7 (List.length (mF l)) 1 fun i =>
  encL (mF l) (0 + i)))) +
  1))
  (need
  (ok1 U8 (fun l x => List.all l (okA U8))
  [Ta.cell
  (Td.fr 1
  (List.length
  (ipL
  (listT In
  (Td.fr 7 (List.length (mF l)) 1 fun i =>
  encL (mF l) (0 + i)))) +
  1)
  0 fun i k =>
  mrgT
  (Nat.blt (0 + i)
  (List.length
  (ipL
  (listT In
  (Td.fr 7 (List.length (mF l)) 1 fun i =>
  encL (mF l) (0 + i))))))
  (encL
  (ipL
  (listT In
  (Td.fr 7 (List.length (mF l)) 1 fun i =>
  encL (mF l) (0 + i))))
  (0 + (0 + (0 + i))) k)
  (selT 1 1 [Td.sc (Value.int IntKind.u8 more)]
  (0 + i -
  List.length
  (ipL
  (listT In
  (Td.fr 7 (List.length (mF l)) 1 fun i =>
  encL (mF l) (0 + i)))))
  k))])
  (need
  (tiO
  (listT U8
  (Td.fr 1
  (List.length
  (ipL
  (listT In
  (Td.fr 7 (List.length (mF l)) 1 fun i =>
  encL (mF l) (0 + i)))))
  (ipC
  (listT In
  (Td.fr 7 (List.length (mF l)) 1 fun i =>
  encL (mF l) (0 + i))))
  fun i =>
  encL
  (ipL
  (listT In
  (Td.fr 7 (List.length (mF l)) 1 fun i =>
  encL (mF l) (0 + i))))
  (0 + i))))
  (need
  (true &&
  Nat.ble
  (0 +
  List.length
  (tiL
  (listT U8
  (Td.fr 1
  (List.length
  (ipL
  (listT In
  (Td.fr 7 (List.length (mF l)) 1 fun i =>
  encL (mF l) (0 + i)))))
  (ipC
  (listT In
  (Td.fr 7 (List.length (mF l)) 1 fun i =>
  encL (mF l) (0 + i))))
  fun i =>
  encL
  (ipL
  (listT In
  (Td.fr 7 (List.length (mF l)) 1 fun i =>
  encL (mF l) (0 + i))))
  (0 + i)))))
  (List.length
  (tiL
  (listT U8
  (Td.fr 1
  (List.length
  (ipL
  (listT In
  (Td.fr 7 (List.length (mF l)) 1 fun i =>
  encL (mF l) (0 + i)))))
  (ipC
  (listT In
  (Td.fr 7 (List.length (mF l)) 1 fun i =>
  encL (mF l) (0 + i))))
  fun i =>
  encL
  (ipL
  (listT In
  (Td.fr 7 (List.length (mF l)) 1 fun i =>
  encL (mF l) (0 + i))))
  (0 + i))))))
  (need (true && Nat.ble (0 + List.length (mF l)) (List.length (mF l)))
  (need
  (ok2 In In (fun x x_1 x_2 x_3 => true)
  [Ta.cell
  (Td.fr 7
  (List.length
  (tiL
  (listT U8
  (Td.fr 1
  (List.length
  (ipL
  (listT In
  (Td.fr 7 (List.length (mF l)) 1
  fun i => encL (mF l) (0 + i)))))
  (ipC
  (listT In
  (Td.fr 7 (List.length (mF l)) 1 fun i =>
  encL (mF l) (0 + i))))
  fun i =>
  encL
  (ipL
  (listT In
  (Td.fr 7 (List.length (mF l)) 1
  fun i => encL (mF l) (0 + i))))
  (0 + i)))))
  1 fun i =>
  encL
  (tiL
  (listT U8
  (Td.fr 1
  (List.length
  (ipL
  (listT In
  (Td.fr 7 (List.length (mF l)) 1
  fun i => encL (mF l) (0 + i)))))
  (ipC
  (listT In
  (Td.fr 7 (List.length (mF l)) 1 fun i =>
  encL (mF l) (0 + i))))
  fun i =>
  encL
  (ipL
  (listT In
  (Td.fr 7 (List.length (mF l)) 1
  fun i => encL (mF l) (0 + i))))
  (0 + i))))
  (0 + i)),
  Ta.cell
  (Td.fr 7 (List.length (mF l)) 1 fun i =>
  encL (mF l) (0 + i))])
  (need
  (sameIs
  (listT In
  (Td.fr 7
  (List.length
  (tiL
  (listT U8
  (Td.fr 1
  (List.length
  (ipL
  (listT In
  (Td.fr 7 (List.length (mF l)) 1
  fun i => encL (mF l) (0 + i)))))
  (ipC
  (listT In
  (Td.fr 7 (List.length (mF l)) 1 fun i =>
  encL (mF l) (0 + i))))
  fun i =>
  encL
  (ipL
  (listT In
  (Td.fr 7 (List.length (mF l)) 1
  fun i => encL (mF l) (0 + i))))
  (0 + i)))))
  1 fun i =>
  encL
  (tiL
  (listT U8
  (Td.fr 1
  (List.length
  (ipL
  (listT In
  (Td.fr 7 (List.length (mF l)) 1
  fun i => encL (mF l) (0 + i)))))
  (ipC
  (listT In
  (Td.fr 7 (List.length (mF l)) 1 fun i =>
  encL (mF l) (0 + i))))
  fun i =>
  encL
  (ipL
  (listT In
  (Td.fr 7 (List.length (mF l)) 1
  fun i => encL (mF l) (0 + i))))
  (0 + i))))
  (0 + i)))
  (listT In
  (Td.fr 7 (List.length (mF l)) 1 fun i =>
  encL (mF l) (0 + i))))
  (need
  (!tiO
  (listT U8
  (Td.fr 1
  (Int.toNat
  (Int.tmod (IntKind.wrap IntKind.i64 cut)
  (Int.ofNat
  (List.length
  (ipL
  (listT In
  (Td.fr 7 (List.length (mF l)) 1
  fun i => encL (mF l) (0 + i))))))) -
  0)
  (bif
  Nat.beq
  (List.length
  (ipL
  (listT In
  (Td.fr 7 (List.length (mF l)) 1
  fun i => encL (mF l) (0 + i)))))
  0 then
  ipC
  (listT In
  (Td.fr 7 (List.length (mF l)) 1 fun i =>
  encL (mF l) (0 + i)))
  else 0)
  fun i =>
  encL
  (ipL
  (listT In
  (Td.fr 7 (List.length (mF l)) 1 fun i =>
  encL (mF l) (0 + i))))
  (0 + i))))
  (need
  (!tiO
  (listT U8
  (Td.fr 1
  (List.length
  (ipL
  (listT In
  (Td.fr 7 (List.length (mF l)) 1
  fun i => encL (mF l) (0 + i)))) +
  1)
  0 fun i k =>
  mrgT
  (Nat.blt (0 + i)
  (List.length
  (ipL
  (listT In
  (Td.fr 7 (List.length (mF l)) 1
  fun i => encL (mF l) (0 + i))))))
  (encL
  (ipL
  (listT In
  (Td.fr 7 (List.length (mF l)) 1
  fun i => encL (mF l) (0 + i))))
  (0 + (0 + (0 + i))) k)
  (selT 1 1
  [Td.sc (Value.int IntKind.u8 more)]
  (0 + i -
  List.length
  (ipL
  (listT In
  (Td.fr 7 (List.length (mF l)) 1
  fun i => encL (mF l) (0 + i)))))
  k))))
  True)))))))))))))))))))))))) := by kernel_rfl
end Go.Proofs.Ytncndnlbiijdoaa.Ev

/-! InstBack: what has to hold holds. -/
set_option linter.unusedVariables false
set_option linter.unusedSimpArgs false
set_option maxRecDepth 100000
namespace Go.Proofs.Ytncndnlbiijdoaa.Ev
open Go Go.Proofs Go.RowKit

theorem bits_idem (f : Nat) : bitsN (bitsN f) = bitsN f := by
  unfold bitsN
  cases h : nanB .f64 f with
  | true => rfl
  | false => show cond (nanB .f64 f) _ f = f; rw [h]; rfl
theorem valP_can (k i : Int) (f : Nat) : valP k i (bitsN f) ↔ valP k i f := by unfold valP; rw [bits_idem]
theorem valN_can (k i : Int) (f : Nat) : valN k i (bitsN f) = valN k i f := by
  unfold valN
  by_cases h : valP k i f
  · rw [if_pos h, if_pos ((valP_can k i f).2 h)]
  · rw [if_neg h, if_neg fun q => h ((valP_can k i f).1 q)]
theorem mayB_can (x : In) : mayB (canI x) = mayB x := by
  have : mayP (canI x) ↔ mayP x := by
    unfold mayP
    simp only [canI, bits_idem, valN_can]
  unfold mayB
  rw [Bool.eq_iff_iff, decide_eq_true_iff, decide_eq_true_iff]; exact this
theorem fit_can {x : In} (h : inFit x = true) : inFit (canI x) = true := by
  unfold inFit at h ⊢
  simp only [Bool.and_eq_true, decide_eq_true_eq] at h ⊢
  exact ⟨⟨bits_lt h.1.1, h.1.2⟩, h.2⟩
theorem can_idem (x : In) : canI (canI x) = canI x := by
  show (⟨x.op, x.kd, x.a, x.n, ⟨x.v.k, x.v.i, bitsN (bitsN x.v.f)⟩⟩ : In) = _
  rw [bits_idem]; rfl
theorem same_can (x : In) : sameIn (canI x) x = true := (sameIn_iff _ _).2 ⟨rfl, rfl, rfl, rfl, rfl, rfl, bits_idem _⟩
theorem sameP_can : ∀ (l : List In), sameP (l.map canI) l := by
  intro l
  induction l with
  | nil => exact trivial
  | cons x l ih => exact ⟨same_can x, ih⟩
theorem par_of {l : List In} (hl : l.length ≤ 400) (h1 : l.all mayB = true) (h2 : l.all inFit = true) : isPar (putN l l.length) (l.map canI) := by
  refine ⟨by simpa using hl, ?_, ?_, put_same (sameP_can l), ?_⟩
  · rw [List.all_map, List.all_eq_true] at *
    exact fun x hx => by show mayB (canI x) = true; rw [mayB_can]; exact h1 x hx
  · rw [List.all_map, List.all_eq_true] at *
    exact fun x hx => fit_can (h2 x hx)
  · rw [List.map_map]
    exact List.map_congr_left fun x _ => can_idem x
theorem take_yes {l : List In} (hl : l.length ≤ 400) (h1 : l.all mayB = true) (h2 : l.all inFit = true) : tiO (putN l l.length) = true ∧ tiL (putN l l.length) = l.map canI := by
  have hg := tk_good (putN_ok l l.length) (n0 := _) rfl
  have hp := par_of hl h1 h2
  have e := hg.2.2.2 _ hp
  rw [← e] at hp
  obtain ⟨a, b⟩ := ti_yes hg hp
  exact ⟨a, by rw [b, e]⟩
theorem take_cut {l : List In} (hl : l.length ≤ 400) (h1 : l.all mayB = true) (h2 : l.all inFit = true) {n : Nat} (hn : n < (putN l l.length).length) : tiO ((putN l l.length).take n) = false := by
  have hg := tk_good (take_all (putN_ok l l.length) n) (n0 := _) rfl
  refine (ti_no hg fun h => ?_).1
  obtain ⟨p1, p2, p3, p4, p5⟩ := h
  generalize (parI _ _).2 = L at *
  have e : putN L L.length ++ (putN l l.length).drop n = putN l l.length ++ [] := by rw [p4, List.take_append_drop, List.append_nil]
  have := (put_inj p1 hl p2 h1 p3 h2 e).2
  have := congrArg List.length this
  simp at this
  omega
theorem take_more {l : List In} (hl : l.length ≤ 400) (h1 : l.all mayB = true) (h2 : l.all inFit = true) {u : U8} (hu : okA U8 u = true) : tiO (putN l l.length ++ [u]) = false := by
  have ho : (putN l l.length ++ [u]).all (okA U8) = true := by rw [List.all_append, putN_ok]; simp [hu]
  have hg := tk_good ho (n0 := _) rfl
  refine (ti_no hg fun h => ?_).1
  obtain ⟨p1, p2, p3, p4, p5⟩ := h
  generalize (parI _ _).2 = L at *
  have e : putN L L.length ++ [] = putN l l.length ++ [u] := by rw [p4, List.append_nil]
  have := (put_inj p1 hl p2 h1 p3 h2 e).2
  cases this
theorem mF_may (l : List In) : (mF l).all mayB = true := by
  rw [List.all_eq_true]
  exact fun x hx => (List.mem_filter.1 hx).2
theorem mF_fit {l : List In} (h : l.all (okA In) = true) : (mF l).all (okA In) = true := by
  rw [List.all_eq_true] at *
  exact fun x hx => h x (List.mem_filter.1 hx).1
theorem mF_len (l : List In) : (mF l).length ≤ l.length := List.length_filter_le _ _
theorem mF_step {l : List In} {k : Nat} (hk : k < l.length) : mF (l.take (k + 1)) = bif mayB (l.getD k Enc.dflt) then mF (l.take k) ++ [l.getD k Enc.dflt] else mF (l.take k) := by
  have : l.take (k + 1) = l.take k ++ [l.getD k Enc.dflt] := by
    rw [List.take_add_one]; simp [List.getD, hk]
  rw [this]
  unfold mF
  rw [List.filter_append]
  clear this
  generalize l.getD k Enc.dflt = x
  cases h : mayB x with
  | true => simp [List.filter, h]
  | false => simp [List.filter, h]
theorem bk_loop {l : List In} {c : Nat} {cut more : Int} {β : Bs} (hβ : β.X.length = 1) (hl : l.length ≤ 20) :
    LoopJ Try.prog β (exBk l c cut more) 0 (loopOf Try.prog 4 0) (FBk l (mF (l.take 0)) c 1 cut more ((0 : Nat) : Int)) (SBk l (mF (l.take 0))) := by
  refine loop_rule (fun k : Nat => k ≤ l.length) (fun k => FBk l (mF (l.take k)) c 1 cut more (k : Int)) (fun k => SBk l (mF (l.take k))) (fun k => l.length - k) (fun k hk K hK => ?_) 0 (Nat.zero_le _)
  have hK : K (.exit 0) (FBk l (mF l) c 1 cut more l.length) (SBk l (mF l)) := hK
  show J Try.prog β (loopOf Try.prog 4 0) (FBk l (mF (l.take k)) c 1 cut more (k : Int)) (SBk l (mF (l.take k))) (Nn β (fun k : Nat => k ≤ l.length) (fun k => l.length - k) (fun k => FBk l (mF (l.take k)) c 1 cut more (k : Int)) (fun k => SBk l (mF (l.take k))) k K)
  refine roundJ_ok (E := 1) (lvs := fun _ => slBk) (un := fun _ => 0) (fuel := 100) (n := 20) (ex := fun _ _ => False) follows toldV1_ok hβ (lv := lvBk) ?_
  rw [vc_bk_r]
  generalize hN : Nn β (fun k : Nat => k ≤ l.length) (fun k => l.length - k) (fun k => FBk l (mF (l.take k)) c 1 cut more (k : Int)) (fun k => SBk l (mF (l.take k))) k K = N
  have hm : (mF (l.take k)).length ≤ 20 := Nat.le_trans (mF_len _) (by rw [List.length_take]; omega)
  by_cases hkn : k < l.length
  · have c1 : decide ((k : Int) < Int.ofNat l.length) = true := by simpa using hkn
    have i1 : decide ((0 : Int) ≤ (k : Int)) = true := by simp
    have i2 : Int.toNat (k : Int) = k := Int.toNat_natCast k
    have i3 : Nat.blt k l.length = true := by simpa using hkn
    have i4 : Nat.ble 0 k = true := by simp
    have hw : IntKind.wrap .i64 ((k : Int) + 1) = ((k + 1 : Nat) : Int) := w64 (by omega) (by omega)
    have hx : ∀ x : In, (⟨x.op, x.kd, x.a, x.n, ⟨x.v.k, x.v.i, x.v.f⟩⟩ : In) = x := fun x => rfl
    have b1 : Nat.ble ((mF (l.take k)).length + 1) 1000000 = true := Nat.ble_eq_true_of_le (by omega)
    have hs := mF_step hkn
    simp only [c1, i1, i2, i3, i4, b1, Nat.zero_add, bleS, Bool.true_and, need_t, br_t, hw, hx]
    refine br_of (fun q1 => ?_) (fun q1 => ?_)
    · subst hN
      rw [q1] at hs
      have hs : mF (l.take (k + 1)) = mF (l.take k) ++ [l.getD k Enc.dflt] := hs
      refine Nn.next (I := fun k : Nat => k ≤ l.length) (m := fun k => l.length - k) (F := fun k => FBk l (mF (l.take k)) c 1 cut more (k : Int)) (S := fun k => SBk l (mF (l.take k))) (p := k) (k + 1) hkn (by omega) ?_
      have hF : FBk l (mF (l.take (k + 1))) c 1 cut more ((k + 1 : Nat) : Int) = mkF 84 [(0, Value.slice (some (Addr.mk 0 0 (some 0))) (List.length l) c), (1, Value.int IntKind.u16 cut), (2, Value.int IntKind.u8 more), (7, Value.slice (some (Addr.mk 1 0 (some 0))) ((mF (l.take k)).length + 1) 1), (8, Value.int IntKind.i64 ((k + 1 : Nat) : Int))] := by
        unfold FBk; rw [hs, List.length_append]; rfl
      have hS : SBk l (mF (l.take (k + 1))) = mkS [some (rowO .still l), some (rowO .mine (mF (l.take k) ++ [l.getD k Enc.dflt]))] := by
        unfold SBk; rw [hs]
      show Seen β _ _ (FBk l (mF (l.take (k + 1))) c 1 cut more ((k + 1 : Nat) : Int)) (SBk l (mF (l.take (k + 1))))
      rw [hF, hS]
      refine Seen.two rfl rfl (fun _ _ _ h => h) fun ρ s w h => ?_
      refine row_app (α := In) (es := 7) (n := (mF (l.take k)).length) (g := fun i j => encL (mF (l.take k)) i j) (ts := _) rfl rfl (fun i j => rfl) (fun j hj => ?_) (by simpa only [Nat.zero_add] using h)
      match j, hj with
      | 0, _ => rfl
      | 1, _ => rfl
      | 2, _ => rfl
      | 3, _ => rfl
      | 4, _ => rfl
      | 5, _ => rfl
      | 6, _ => rfl
    · subst hN
      rw [q1] at hs
      have hs : mF (l.take (k + 1)) = mF (l.take k) := hs
      refine Nn.next (I := fun k : Nat => k ≤ l.length) (m := fun k => l.length - k) (F := fun k => FBk l (mF (l.take k)) c 1 cut more (k : Int)) (S := fun k => SBk l (mF (l.take k))) (p := k) (k + 1) hkn (by omega) ?_
      show Seen β _ _ (FBk l (mF (l.take (k + 1))) c 1 cut more ((k + 1 : Nat) : Int)) (SBk l (mF (l.take (k + 1))))
      rw [hs]
      exact Seen.refl _ _ _
  · have c1 : decide ((k : Int) < Int.ofNat l.length) = false := by simpa using hkn
    have hkn' : k = l.length := by omega
    simp only [c1, br_f]
    subst hkn' hN
    rw [List.take_length]
    exact Nn.exit (Seen.refl _ _ _) hK
theorem ok1_in {l : List In} {c : Nat} (hok : l.all (okA In) = true) (hl : l.length ≤ 1000000) (hc : c ≤ 1) : ok1 In (fun l x => List.all l (okA In)) [Ta.cell (Td.fr 7 l.length c (encL l))] = true := by
  show (okT In (tdL l c) && (listT In (tdL l c)).all (okA In)) = true
  rw [okT_tdL hok hl hc, listT_tdL, hok]; rfl
theorem ok2_in {l m : List In} {c d : Nat} (hl : l.all (okA In) = true) (hm : m.all (okA In) = true) (h1 : l.length ≤ 1000000) (h2 : m.length ≤ 1000000) (hc : c ≤ 1) (hd : d ≤ 1) : ok2 In In (fun _ _ _ _ => true) [Ta.cell (Td.fr 7 l.length c (encL l)), Ta.cell (Td.fr 7 m.length d (encL m))] = true := by
  show (okT In (tdL l c) && okT In (tdL m d) && true) = true
  rw [okT_tdL hl h1 hc, okT_tdL hm h2 hd]; rfl
theorem ipG_may {l : List In} (h : l.length ≤ 400) (h2 : l.all mayB = true) : ipG l = true := by unfold ipG; rw [decide_eq_true h, h2]; rfl
theorem lU_take (l : List U8) {n : Nat} (c : Nat) (h : n ≤ l.length) : listT U8 (Td.fr 1 n c (encL l)) = l.take n := by
  have := listU_mid l (k := 0) (n := n) c (by omega)
  simp only [Nat.zero_add, List.drop_zero] at this
  exact this
theorem ok1_take {l : List U8} (hl : l.all (okA U8) = true) {n c : Nat} (h : n ≤ l.length) (hn : n ≤ 1000000) (hc : c ≤ 1) : ok1 U8 (fun l _ => l.all (okA U8)) [Ta.cell (Td.fr 1 n c (encL l))] = true := by
  have := ok1_mid hl (k := 0) (n := n) (c := c) (by omega) hn hc
  simp only [Nat.zero_add] at this
  exact this
theorem back_law {l : List In} {c : Nat} {cut more : Int} (hc : c ≤ 1) (hl : l.all (okA In) = true) (hcut : 0 ≤ cut ∧ cut < 65536) (hmore : 0 ≤ more ∧ more < 256) (w : World) (args' : Array Value) (ha : PW (TR w (There w)) [tdL l c, .sc (.int .u16 cut), .sc (.int .u8 more)] args'.toList) :
    Calls Try.prog 4 args' w fun e w' => e = .returned (.bool true) ∧ Below w.heap.size w w' := by
  refine law_top (C := toldV1) (fuel := 100) (n := 20) (un := fun _ => 0) (lvs := fun _ => slBk) (ex := exBk l c cut more) follows toldV1_ok (fun β hβ => ?_) w args' ha
  show lawE _ _ _ _ _ _ (cnOf 1 fun _ => slBk) _ _ [.slice (some ⟨0, 0, some 0⟩) l.length c, .int .u16 cut, .int .u8 more] (mkS [some (rowO .still l)]) trueE
  rw [vc_bk]
  refine br_of (fun _ => trivial) (fun q1 => ?_)
  have hl20 : l.length ≤ 20 := by simp at q1; omega
  refine ⟨LoopJ.seen ?_ (bk_loop (l := l) (c := c) (cut := cut) (more := more) hβ hl20), ?_⟩
  · refine Seen.nilSlot 7 7 (encL ([] : List In)) rfl rfl rfl fun t v h => ?_
    rcases mkFT_get _ _ t v h with h1 | h1
    · simp at h1
      rcases h1 with ⟨rfl, rfl⟩ | ⟨rfl, rfl⟩ | ⟨rfl, rfl⟩ | ⟨rfl, rfl⟩ | ⟨rfl, rfl⟩
      · exact .inr rfl
      · exact .inr rfl
      · exact .inr rfl
      · exact .inl ⟨rfl, rfl⟩
      · exact .inr rfl
    · cases h1
  have hm1 := mF_may l
  have hm2 := mF_fit hl
  have hm3 : (mF l).length ≤ 20 := Nat.le_trans (mF_len l) hl20
  generalize mF l = m at *
  have hg := ipG_may (l := m) (by omega) hm1
  have e1 : ipL m = putN m m.length := by unfold ipL; rw [hg]; rfl
  have e2 : ipC m = 0 := by unfold ipC; rw [hg]; rfl
  have t1 := take_yes (l := m) (by omega) hm1 hm2
  have t2 := fun n hn => take_cut (l := m) (n := n) (by omega) hm1 hm2 hn
  have hu : okA U8 (⟨more⟩ : U8) = true := (okU_iff _).2 hmore
  have t3 := take_more (l := m) (u := ⟨more⟩) (by omega) hm1 hm2 hu
  have hP := putN_len m m.length
  have hPo := putN_ok m m.length
  have o1 := ok1_in (c := 1) hm2 (by omega) (by omega)
  have hcl : (m.map canI).length = m.length := by simp
  have hco : (m.map canI).all (okA In) = true := (par_of (l := m) (by omega) hm1 hm2).2.2.1
  have o4 := ok2_in (c := 1) (d := 1) hco hm2 (by omega) (by omega) (by omega) (by omega)
  have hs : sameIs (m.map canI) m = true := (sameP_iff _ _).2 (sameP_can m)
  obtain ⟨t1, t1'⟩ := t1
  generalize putN m m.length = P at *
  have hPl : 2 ≤ P.length ∧ P.length ≤ 10000 := by omega
  have o2 := ok1U (c := 0) hPo (by omega) (by omega)
  obtain ⟨a, rfl⟩ := Int.eq_ofNat_of_zero_le hcut.1
  have W1 : IntKind.wrap .i64 (a : Int) = (a : Int) := w64 (by omega) (by omega)
  have W2 : Int.tmod (a : Int) (P.length : Int) = ((a % P.length : Nat) : Int) := (Int.ofNat_tmod _ _).symm
  have hK : a % P.length < P.length := Nat.mod_lt _ (by omega)
  have t2 := t2 _ hK
  have z0 : decide ((P.length : Int) < 2) = false := decide_eq_false (by omega)
  have z1 : Nat.beq P.length 0 = false := beq_false (by omega)
  have z2 : decide ((P.length : Int) = 0) = false := decide_eq_false (by omega)
  have z3 : decide ((0 : Int) ≤ ((a % P.length : Nat) : Int)) = true := decide_eq_true (by omega)
  have b1 : Nat.ble P.length 1000000 = true := Nat.ble_eq_true_of_le (by omega)
  have b2 : Nat.ble (P.length + 1) 1000000 = true := Nat.ble_eq_true_of_le (by omega)
  have b3 : Nat.ble (a % P.length) P.length = true := Nat.ble_eq_true_of_le (by omega)
  have o3 := ok1_take (c := 0) hPo (n := a % P.length) (by omega) (by omega) (by omega)
  have l3 := lU_take P (n := a % P.length) 0 (by omega)
  have l5 : listT U8 (Td.fr 1 (P.length + 1) 0 fun i k => mrgT (Nat.blt i P.length) (encL P i k) (selT 1 1 [Td.sc (.int .u8 more)] (i - P.length) k)) = P ++ [⟨more⟩] := listT_app (a := (⟨more⟩ : U8)) rfl (fun _ _ => rfl) (fun j hj => match j, hj with | 0, _ => rfl)
  have ho5 : (P ++ [(⟨more⟩ : U8)]).all (okA U8) = true := by rw [List.all_append, hPo]; simp [hu]
  have o5 : ok1 U8 (fun l x => List.all l (okA U8)) [Ta.cell (Td.fr 1 (P.length + 1) 0 fun i k => mrgT (Nat.blt i P.length) (encL P i k) (selT 1 1 [Td.sc (.int .u8 more)] (i - P.length) k))] = true := by
    have h5 : okT U8 (Td.fr 1 (P.length + 1) 0 fun i k => mrgT (Nat.blt i P.length) (encL P i k) (selT 1 1 [Td.sc (.int .u8 more)] (i - P.length) k)) = true := okT_app (a := (⟨more⟩ : U8)) rfl (fun _ _ => rfl) (fun j hj => match j, hj with | 0, _ => rfl) ho5 (by omega) (by omega)
    show (okT U8 _ && (listT U8 _).all (okA U8)) = true
    rw [l5, ho5, h5]; rfl
  simp only [encZ, Nat.zero_add, Nat.sub_zero, bleS, Bool.true_and, Bool.and_true, need_t, br_f, o1, o2, lIn, lU, e1, e2, t1, t1', Int.ofNat_eq_natCast, W1, W2, z0, z1, z2, z3, b1, b2, b3, cond_false, Int.toNat_natCast, Bool.not_false, o3, l3, o5, l5, o4, hs, t2, t3]
end Go.Proofs.Ytncndnlbiijdoaa.Ev
