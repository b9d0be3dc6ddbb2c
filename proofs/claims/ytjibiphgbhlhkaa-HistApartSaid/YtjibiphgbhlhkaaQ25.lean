/-
  What has to hold: printed by the evaluator.
-/
import Derived.Test.YtjibiphgbhlhkaaQ22
import Derived.Test.YtjibiphgbhlhkaaQ24
set_option linter.unusedVariables false
set_option linter.unusedSimpArgs false
section
set_option maxRecDepth 1000000
namespace Go.Proofs.Ytjibiphgbhlhkaa.Ev
open Go Go.Proofs
def exPl (l : List Evt) (cl : Nat) (A : List Ask) (ca : Nat) (a d : Int) (b : Bool) (m : List Vl) (c : Nat) (r : Bool × Es) : Nat → Kt → Prop := fun bk K => (r.1 = true → K .ret (FPr true) (mkS (viS l cl A ca r.2 m))) ∧ (r.1 = false → K (.exit bk) (FPl A ca A.length) (SPl l cl A ca r.2 a d b m c))
def shpPl (l : List Evt) (cl : Nat) (A : List Ask) (ca : Nat) (es' : Es) (a d : Int) (b : Bool) (m : List Vl) (c : Nat) (i' : Int) : AFr × ASt := (FPl A ca i', SPl l cl A ca es' a d b m c)
def shpPr (l : List Evt) (cl : Nat) (A : List Ask) (ca : Nat) (es' : Es) (m : List Vl) (q' : Bool) : AFr × ASt := (FPr q', mkS (viS l cl A ca es' m))
theorem vc_pl (l : List Evt) (cl : Nat) (A : List Ask) (ca : Nat) (es : Es) (a d : Int) (b : Bool) (m : List Vl) (c : Nat) (r : Bool × Es) (f : Nat) (β : Bs) (K : AE → List (Option AObj) → Prop) : lawE Try.prog (toldG f) 100 20 β (fun _ => 0) (cnOf 5 fun _ => slPl) (exPl l cl A ca a d b m c r) 22 [.pointer (some ⟨0, 0, none⟩), .agg ⟨svV a d b m c⟩] (mkS (viS l cl A ca es m)) (outK K) =
 (LoopJ Try.prog β (exPl l cl A ca a d b m c r) 0 (loopOf Try.prog 22 0) (FPl A ca (0 : Int)) (SPl l cl A ca es a d b m c) ∧ (Prod.fst r = true → K (.returned (.bool true)) [some (.cells [.slice (some ⟨1, 0, some 0⟩) l.length cl, .slice (some ⟨2, 0, some 0⟩) A.length ca, .map (some 3)] true 0), some (.row .look 8 0 l.length (encL l)), some (.row .look 13 0 A.length (encL A)), some (AObj.omap Kk.s Vk.b (Prod.snd r)), some (.row .look 3 0 m.length (encL m))]) ∧ (Prod.fst r = false → K (.returned (.bool false)) [some (.cells [.slice (some ⟨1, 0, some 0⟩) l.length cl, .slice (some ⟨2, 0, some 0⟩) A.length ca, .map (some 3)] true 0), some (.row .look 8 0 l.length (encL l)), some (.row .look 13 0 A.length (encL A)), some (AObj.omap Kk.s Vk.b (Prod.snd r)), some (.row .look 3 0 m.length (encL m)), some (.cells [.int .i64 a, .int .u64 d, .bool b, .slice (some ⟨4, 0, some 0⟩) m.length c] true 0)])) := by kernel_rfl
theorem vc_pl_r (l : List Evt) (cl : Nat) (A : List Ask) (ca : Nat) (es : Es) (a d : Int) (b : Bool) (m : List Vl) (c : Nat) (i : Int) (f : Nat) (β : Bs) (N : Kt) (ex : Nat → Kt → Prop) : roundJ Try.prog (toldG f) 100 20 β (fun _ => 0) (cnOf 5 fun _ => slPl) ex 22 0 5 lvPl (FPl A ca i) (SPl l cl A ca es a d b m c) N =
 ((fun (z0 : Ask) => (br (decide (i < Int.ofNat A.length)) (need (decide ((0 : Int) ≤ i)) (need (Nat.blt (Int.toNat i) A.length) (need (Nat.ble 0 (0 + Int.toNat i) && Nat.blt (0 + Int.toNat i) A.length) (br (!Ask.pl z0) (onP N .normal (shpPl l cl A ca es a d b m c (IntKind.wrap .i64 (i + (1 : Int))))) (need (decide ((0 : Int) ≤ i)) (br (IntKind.wrap .u64 (Int.ofNat (BitVec.toNat (BitVec.ofInt 64 (Int.fdiv d ((2 : Int) ^ min (Int.toNat i) 64)) &&& BitVec.ofInt 64 (1 : Int)))) == (1 : Int)) (onP N .normal (shpPl l cl A ca es a d b m c (IntKind.wrap .i64 (i + (1 : Int))))) (br (decide (Ask.fr z0 ≥ a)) (onP N .normal (shpPl l cl A ca es a d b m c (IntKind.wrap .i64 (i + (1 : Int))))) (br (decide (Ask.to z0 < a)) (onP N .normal (shpPl l cl A ca es a d b m c (IntKind.wrap .i64 (i + (1 : Int))))) (br (!b) (onP N .normal (shpPl l cl A ca es a d b m c (IntKind.wrap .i64 (i + (1 : Int))))) (br (Evt.w (Ask.ev z0)) (need (fiB m.length c (fiX (Evt.k (Ask.ev z0)) (Evt.s (Ask.ev z0)) (Evt.i (Ask.ev z0)) (Evt.w (Ask.ev z0)) (Evt.e (Ask.ev z0)) (List.length (Evt.a (Ask.ev z0))) (Evt.ca (Ask.ev z0)) (List.length (Evt.v (Ask.ev z0))) (Evt.cv (Ask.ev z0)) (List.length (Evt.m (Ask.ev z0))) (Evt.cm (Ask.ev z0)) (List.length (Ask.vs z0)) (Ask.cs z0) (Ask.fr z0) (Ask.to z0) (Ask.mu z0) (Ask.pl z0) (some (.row .still 1 0 (List.length (Evt.a (Ask.ev z0))) (encL (Evt.a (Ask.ev z0))))) (some (.row .still 3 0 (List.length (Evt.v (Ask.ev z0))) (encL (Evt.v (Ask.ev z0))))) (some (.row .still 3 0 (List.length (Evt.m (Ask.ev z0))) (encL (Evt.m (Ask.ev z0))))) (some (.row .still 3 0 (List.length (Ask.vs z0)) (encL (Ask.vs z0))))) (List.length (Evt.a (Ask.ev z0))) (List.length (Evt.v (Ask.ev z0))) (List.length (Evt.m (Ask.ev z0))) (List.length (Ask.vs z0)) (some (.row .look 3 0 m.length (encL m))) (some (.row .still 1 0 (List.length (Evt.a (Ask.ev z0))) (encL (Evt.a (Ask.ev z0))))) (some (.row .still 3 0 (List.length (Evt.v (Ask.ev z0))) (encL (Evt.v (Ask.ev z0))))) (some (.row .still 3 0 (List.length (Evt.m (Ask.ev z0))) (encL (Evt.m (Ask.ev z0))))) (some (.row .still 3 0 (List.length (Ask.vs z0)) (encL (Ask.vs z0))))) (need (decide ((0 : Int) ≤ i)) (need (rowB Evt l.length cl (some (.row .look 8 0 l.length (encL l))) && rowB Ev.Ask A.length ca (some (.row .look 13 0 A.length (encL A))) && rowB Vl m.length c (some (.row .mine 3 0 (List.length (nxt (rowL Vl m.length (some (.row .look 3 0 m.length (encL m)))) (fiX (Evt.k (Ask.ev z0)) (Evt.s (Ask.ev z0)) (Evt.i (Ask.ev z0)) (Evt.w (Ask.ev z0)) (Evt.e (Ask.ev z0)) (List.length (Evt.a (Ask.ev z0))) (Evt.ca (Ask.ev z0)) (List.length (Evt.v (Ask.ev z0))) (Evt.cv (Ask.ev z0)) (List.length (Evt.m (Ask.ev z0))) (Evt.cm (Ask.ev z0)) (List.length (Ask.vs z0)) (Ask.cs z0) (Ask.fr z0) (Ask.to z0) (Ask.mu z0) (Ask.pl z0) (some (.row .still 1 0 (List.length (Evt.a (Ask.ev z0))) (encL (Evt.a (Ask.ev z0))))) (some (.row .still 3 0 (List.length (Evt.v (Ask.ev z0))) (encL (Evt.v (Ask.ev z0))))) (some (.row .still 3 0 (List.length (Evt.m (Ask.ev z0))) (encL (Evt.m (Ask.ev z0))))) (some (.row .still 3 0 (List.length (Ask.vs z0)) (encL (Ask.vs z0))))))) (encL (nxt (rowL Vl m.length (some (.row .look 3 0 m.length (encL m)))) (fiX (Evt.k (Ask.ev z0)) (Evt.s (Ask.ev z0)) (Evt.i (Ask.ev z0)) (Evt.w (Ask.ev z0)) (Evt.e (Ask.ev z0)) (List.length (Evt.a (Ask.ev z0))) (Evt.ca (Ask.ev z0)) (List.length (Evt.v (Ask.ev z0))) (Evt.cv (Ask.ev z0)) (List.length (Evt.m (Ask.ev z0))) (Evt.cm (Ask.ev z0)) (List.length (Ask.vs z0)) (Ask.cs z0) (Ask.fr z0) (Ask.to z0) (Ask.mu z0) (Ask.pl z0) (some (.row .still 1 0 (List.length (Evt.a (Ask.ev z0))) (encL (Evt.a (Ask.ev z0))))) (some (.row .still 3 0 (List.length (Evt.v (Ask.ev z0))) (encL (Evt.v (Ask.ev z0))))) (some (.row .still 3 0 (List.length (Evt.m (Ask.ev z0))) (encL (Evt.m (Ask.ev z0))))) (some (.row .still 3 0 (List.length (Ask.vs z0)) (encL (Ask.vs z0))))))))) && okS (rowL Evt l.length (some (.row .look 8 0 l.length (encL l)))) (rowL Ev.Ask A.length (some (.row .look 13 0 A.length (encL A))))
 f a (IntKind.wrap .u64 (Int.ofNat (BitVec.toNat (BitVec.ofInt 64 d ||| BitVec.ofInt 64 (IntKind.wrap .u64 ((1 : Int) * (2 : Int) ^ min (Int.toNat i) 64)))))) b (rowL Vl m.length (some (.row .mine 3 0 (List.length (nxt (rowL Vl m.length (some (.row .look 3 0 m.length (encL m)))) (fiX (Evt.k (Ask.ev z0)) (Evt.s (Ask.ev z0)) (Evt.i (Ask.ev z0)) (Evt.w (Ask.ev z0)) (Evt.e (Ask.ev z0)) (List.length (Evt.a (Ask.ev z0))) (Evt.ca (Ask.ev z0)) (List.length (Evt.v (Ask.ev z0))) (Evt.cv (Ask.ev z0)) (List.length (Evt.m (Ask.ev z0))) (Evt.cm (Ask.ev z0)) (List.length (Ask.vs z0)) (Ask.cs z0) (Ask.fr z0) (Ask.to z0) (Ask.mu z0) (Ask.pl z0) (some (.row .still 1 0 (List.length (Evt.a (Ask.ev z0))) (encL (Evt.a (Ask.ev z0))))) (some (.row .still 3 0 (List.length (Evt.v (Ask.ev z0))) (encL (Evt.v (Ask.ev z0))))) (some (.row .still 3 0 (List.length (Evt.m (Ask.ev z0))) (encL (Evt.m (Ask.ev z0))))) (some (.row .still 3 0 (List.length (Ask.vs z0)) (encL (Ask.vs z0))))))) (encL (nxt (rowL Vl m.length (some (.row .look 3 0 m.length (encL m)))) (fiX (Evt.k (Ask.ev z0)) (Evt.s (Ask.ev z0)) (Evt.i (Ask.ev z0)) (Evt.w (Ask.ev z0)) (Evt.e (Ask.ev z0)) (List.length (Evt.a (Ask.ev z0))) (Evt.ca (Ask.ev z0)) (List.length (Evt.v (Ask.ev z0))) (Evt.cv (Ask.ev z0)) (List.length (Evt.m (Ask.ev z0))) (Evt.cm (Ask.ev z0)) (List.length (Ask.vs z0)) (Ask.cs z0) (Ask.fr z0) (Ask.to z0) (Ask.mu z0) (Ask.pl z0) (some (.row .still 1 0 (List.length (Evt.a (Ask.ev z0))) (encL (Evt.a (Ask.ev z0))))) (some (.row .still 3 0 (List.length (Evt.v (Ask.ev z0))) (encL (Evt.v (Ask.ev z0))))) (some (.row .still 3 0 (List.length (Evt.m (Ask.ev z0))) (encL (Evt.m (Ask.ev z0))))) (some (.row .still 3 0 (List.length (Ask.vs z0)) (encL (Ask.vs z0))))))))))) (need (rowB Evt l.length cl (some (.row .look 8 0 l.length (encL l))) && rowB Ev.Ask A.length ca (some (.row .look 13 0 A.length (encL A))) && rowB Vl m.length c (some (.row .mine 3 0 (List.length (nxt (rowL Vl m.length (some (.row .look 3 0 m.length (encL m)))) (fiX (Evt.k (Ask.ev z0)) (Evt.s (Ask.ev z0)) (Evt.i (Ask.ev z0)) (Evt.w (Ask.ev z0)) (Evt.e (Ask.ev z0)) (List.length (Evt.a (Ask.ev z0))) (Evt.ca (Ask.ev z0)) (List.length (Evt.v (Ask.ev z0))) (Evt.cv (Ask.ev z0)) (List.length (Evt.m (Ask.ev z0))) (Evt.cm (Ask.ev z0)) (List.length (Ask.vs z0)) (Ask.cs z0) (Ask.fr z0) (Ask.to z0) (Ask.mu z0) (Ask.pl z0) (some (.row .still 1 0 (List.length (Evt.a (Ask.ev z0))) (encL (Evt.a (Ask.ev z0))))) (some (.row .still 3 0 (List.length (Evt.v (Ask.ev z0))) (encL (Evt.v (Ask.ev z0))))) (some (.row .still 3 0 (List.length (Evt.m (Ask.ev z0))) (encL (Evt.m (Ask.ev z0))))) (some (.row .still 3 0 (List.length (Ask.vs z0)) (encL (Ask.vs z0))))))) (encL (nxt (rowL Vl m.length (some (.row .look 3 0 m.length (encL m)))) (fiX (Evt.k (Ask.ev z0)) (Evt.s (Ask.ev z0)) (Evt.i (Ask.ev z0)) (Evt.w (Ask.ev z0)) (Evt.e (Ask.ev z0)) (List.length (Evt.a (Ask.ev z0))) (Evt.ca (Ask.ev z0)) (List.length (Evt.v (Ask.ev z0))) (Evt.cv (Ask.ev z0)) (List.length (Evt.m (Ask.ev z0))) (Evt.cm (Ask.ev z0)) (List.length (Ask.vs z0)) (Ask.cs z0) (Ask.fr z0) (Ask.to z0) (Ask.mu z0) (Ask.pl z0) (some (.row .still 1 0 (List.length (Evt.a (Ask.ev z0))) (encL (Evt.a (Ask.ev z0))))) (some (.row .still 3 0 (List.length (Evt.v (Ask.ev z0))) (encL (Evt.v (Ask.ev z0))))) (some (.row .still 3 0 (List.length (Evt.m (Ask.ev z0))) (encL (Evt.m (Ask.ev z0))))) (some (.row .still 3 0 (List.length (Ask.vs z0)) (encL (Ask.vs z0))))))))) && okS (rowL Evt l.length (some (.row .look 8 0 l.length (encL l)))) (rowL Ev.Ask A.length (some (.row .look 13 0 A.length (encL A)))) f a (IntKind.wrap .u64 (Int.ofNat (BitVec.toNat (BitVec.ofInt 64 d ||| BitVec.ofInt 64 (IntKind.wrap .u64 ((1 : Int) * (2 : Int) ^ min (Int.toNat i) 64)))))) b (rowL Vl m.length (some (.row .mine 3 0 (List.length (nxt (rowL Vl m.length (some (.row .look 3 0 m.length (encL m)))) (fiX (Evt.k (Ask.ev z0)) (Evt.s (Ask.ev z0)) (Evt.i (Ask.ev z0)) (Evt.w (Ask.ev z0)) (Evt.e (Ask.ev z0)) (List.length (Evt.a (Ask.ev z0)))
 (Evt.ca (Ask.ev z0)) (List.length (Evt.v (Ask.ev z0))) (Evt.cv (Ask.ev z0)) (List.length (Evt.m (Ask.ev z0))) (Evt.cm (Ask.ev z0)) (List.length (Ask.vs z0)) (Ask.cs z0) (Ask.fr z0) (Ask.to z0) (Ask.mu z0) (Ask.pl z0) (some (.row .still 1 0 (List.length (Evt.a (Ask.ev z0))) (encL (Evt.a (Ask.ev z0))))) (some (.row .still 3 0 (List.length (Evt.v (Ask.ev z0))) (encL (Evt.v (Ask.ev z0))))) (some (.row .still 3 0 (List.length (Evt.m (Ask.ev z0))) (encL (Evt.m (Ask.ev z0))))) (some (.row .still 3 0 (List.length (Ask.vs z0)) (encL (Ask.vs z0))))))) (encL (nxt (rowL Vl m.length (some (.row .look 3 0 m.length (encL m)))) (fiX (Evt.k (Ask.ev z0)) (Evt.s (Ask.ev z0)) (Evt.i (Ask.ev z0)) (Evt.w (Ask.ev z0)) (Evt.e (Ask.ev z0)) (List.length (Evt.a (Ask.ev z0))) (Evt.ca (Ask.ev z0)) (List.length (Evt.v (Ask.ev z0))) (Evt.cv (Ask.ev z0)) (List.length (Evt.m (Ask.ev z0))) (Evt.cm (Ask.ev z0)) (List.length (Ask.vs z0)) (Ask.cs z0) (Ask.fr z0) (Ask.to z0) (Ask.mu z0) (Ask.pl z0) (some (.row .still 1 0 (List.length (Evt.a (Ask.ev z0))) (encL (Evt.a (Ask.ev z0))))) (some (.row .still 3 0 (List.length (Evt.v (Ask.ev z0))) (encL (Evt.v (Ask.ev z0))))) (some (.row .still 3 0 (List.length (Evt.m (Ask.ev z0))) (encL (Evt.m (Ask.ev z0))))) (some (.row .still 3 0 (List.length (Ask.vs z0)) (encL (Ask.vs z0))))))))))) (br (Prod.fst (goL (rowL Evt l.length (some (.row .look 8 0 l.length (encL l)))) (rowL Ev.Ask A.length (some (.row .look 13 0 A.length (encL A)))) f a (IntKind.wrap .u64 (Int.ofNat (BitVec.toNat (BitVec.ofInt 64 d ||| BitVec.ofInt 64 (IntKind.wrap .u64 ((1 : Int) * (2 : Int) ^ min (Int.toNat i) 64)))))) b (rowL Vl m.length (some (.row .mine 3 0 (List.length (nxt (rowL Vl m.length (some (.row .look 3 0 m.length (encL m)))) (fiX (Evt.k (Ask.ev z0)) (Evt.s (Ask.ev z0)) (Evt.i (Ask.ev z0)) (Evt.w (Ask.ev z0)) (Evt.e (Ask.ev z0)) (List.length (Evt.a (Ask.ev z0))) (Evt.ca (Ask.ev z0)) (List.length (Evt.v (Ask.ev z0))) (Evt.cv (Ask.ev z0)) (List.length (Evt.m (Ask.ev z0))) (Evt.cm (Ask.ev z0)) (List.length (Ask.vs z0)) (Ask.cs z0) (Ask.fr z0) (Ask.to z0) (Ask.mu z0) (Ask.pl z0) (some (.row .still 1 0 (List.length (Evt.a (Ask.ev z0))) (encL (Evt.a (Ask.ev z0))))) (some (.row .still 3 0 (List.length (Evt.v (Ask.ev z0))) (encL (Evt.v (Ask.ev z0))))) (some (.row .still 3 0 (List.length (Evt.m (Ask.ev z0))) (encL (Evt.m (Ask.ev z0))))) (some (.row .still 3 0 (List.length (Ask.vs z0)) (encL (Ask.vs z0))))))) (encL (nxt (rowL Vl m.length (some (.row .look 3 0 m.length (encL m)))) (fiX (Evt.k (Ask.ev z0)) (Evt.s (Ask.ev z0)) (Evt.i (Ask.ev z0)) (Evt.w (Ask.ev z0)) (Evt.e (Ask.ev z0)) (List.length (Evt.a (Ask.ev z0))) (Evt.ca (Ask.ev z0)) (List.length (Evt.v (Ask.ev z0))) (Evt.cv (Ask.ev z0)) (List.length (Evt.m (Ask.ev z0))) (Evt.cm (Ask.ev z0)) (List.length (Ask.vs z0)) (Ask.cs z0) (Ask.fr z0) (Ask.to z0) (Ask.mu z0) (Ask.pl z0) (some (.row .still 1 0 (List.length (Evt.a (Ask.ev z0))) (encL (Evt.a (Ask.ev z0))))) (some (.row .still 3 0 (List.length (Evt.v (Ask.ev z0))) (encL (Evt.v (Ask.ev z0))))) (some (.row .still 3 0 (List.length (Evt.m (Ask.ev z0))) (encL (Evt.m (Ask.ev z0))))) (some (.row .still 3 0 (List.length (Ask.vs z0)) (encL (Ask.vs z0)))))))))) es)) (onP N .ret (shpPr l cl A ca (Prod.snd (goL (rowL Evt l.length (some (.row .look 8 0 l.length (encL l)))) (rowL Ev.Ask A.length (some (.row .look 13 0 A.length (encL A)))) f a (IntKind.wrap .u64 (Int.ofNat (BitVec.toNat (BitVec.ofInt 64 d ||| BitVec.ofInt 64 (IntKind.wrap .u64 ((1 : Int) * (2 : Int) ^ min (Int.toNat i) 64)))))) b (rowL Vl m.length (some (.row .mine 3 0 (List.length (nxt (rowL Vl m.length (some (.row .look 3 0 m.length (encL m)))) (fiX (Evt.k (Ask.ev z0)) (Evt.s (Ask.ev z0)) (Evt.i (Ask.ev z0)) (Evt.w (Ask.ev z0)) (Evt.e (Ask.ev z0)) (List.length (Evt.a (Ask.ev z0))) (Evt.ca (Ask.ev z0)) (List.length (Evt.v (Ask.ev z0))) (Evt.cv (Ask.ev z0)) (List.length (Evt.m (Ask.ev z0))) (Evt.cm (Ask.ev z0)) (List.length (Ask.vs z0)) (Ask.cs z0) (Ask.fr z0) (Ask.to z0) (Ask.mu z0) (Ask.pl z0)
 (some (.row .still 1 0 (List.length (Evt.a (Ask.ev z0))) (encL (Evt.a (Ask.ev z0))))) (some (.row .still 3 0 (List.length (Evt.v (Ask.ev z0))) (encL (Evt.v (Ask.ev z0))))) (some (.row .still 3 0 (List.length (Evt.m (Ask.ev z0))) (encL (Evt.m (Ask.ev z0))))) (some (.row .still 3 0 (List.length (Ask.vs z0)) (encL (Ask.vs z0))))))) (encL (nxt (rowL Vl m.length (some (.row .look 3 0 m.length (encL m)))) (fiX (Evt.k (Ask.ev z0)) (Evt.s (Ask.ev z0)) (Evt.i (Ask.ev z0)) (Evt.w (Ask.ev z0)) (Evt.e (Ask.ev z0)) (List.length (Evt.a (Ask.ev z0))) (Evt.ca (Ask.ev z0)) (List.length (Evt.v (Ask.ev z0))) (Evt.cv (Ask.ev z0)) (List.length (Evt.m (Ask.ev z0))) (Evt.cm (Ask.ev z0)) (List.length (Ask.vs z0)) (Ask.cs z0) (Ask.fr z0) (Ask.to z0) (Ask.mu z0) (Ask.pl z0) (some (.row .still 1 0 (List.length (Evt.a (Ask.ev z0))) (encL (Evt.a (Ask.ev z0))))) (some (.row .still 3 0 (List.length (Evt.v (Ask.ev z0))) (encL (Evt.v (Ask.ev z0))))) (some (.row .still 3 0 (List.length (Evt.m (Ask.ev z0))) (encL (Evt.m (Ask.ev z0))))) (some (.row .still 3 0 (List.length (Ask.vs z0)) (encL (Ask.vs z0)))))))))) es)) m true)) (onP N .normal (shpPl l cl A ca (Prod.snd (goL (rowL Evt l.length (some (.row .look 8 0 l.length (encL l)))) (rowL Ev.Ask A.length (some (.row .look 13 0 A.length (encL A)))) f a (IntKind.wrap .u64 (Int.ofNat (BitVec.toNat (BitVec.ofInt 64 d ||| BitVec.ofInt 64 (IntKind.wrap .u64 ((1 : Int) * (2 : Int) ^ min (Int.toNat i) 64)))))) b (rowL Vl m.length (some (.row .mine 3 0 (List.length (nxt (rowL Vl m.length (some (.row .look 3 0 m.length (encL m)))) (fiX (Evt.k (Ask.ev z0)) (Evt.s (Ask.ev z0)) (Evt.i (Ask.ev z0)) (Evt.w (Ask.ev z0)) (Evt.e (Ask.ev z0)) (List.length (Evt.a (Ask.ev z0))) (Evt.ca (Ask.ev z0)) (List.length (Evt.v (Ask.ev z0))) (Evt.cv (Ask.ev z0)) (List.length (Evt.m (Ask.ev z0))) (Evt.cm (Ask.ev z0)) (List.length (Ask.vs z0)) (Ask.cs z0) (Ask.fr z0) (Ask.to z0) (Ask.mu z0) (Ask.pl z0) (some (.row .still 1 0 (List.length (Evt.a (Ask.ev z0))) (encL (Evt.a (Ask.ev z0))))) (some (.row .still 3 0 (List.length (Evt.v (Ask.ev z0))) (encL (Evt.v (Ask.ev z0))))) (some (.row .still 3 0 (List.length (Evt.m (Ask.ev z0))) (encL (Evt.m (Ask.ev z0))))) (some (.row .still 3 0 (List.length (Ask.vs z0)) (encL (Ask.vs z0))))))) (encL (nxt (rowL Vl m.length (some (.row .look 3 0 m.length (encL m)))) (fiX (Evt.k (Ask.ev z0)) (Evt.s (Ask.ev z0)) (Evt.i (Ask.ev z0)) (Evt.w (Ask.ev z0)) (Evt.e (Ask.ev z0)) (List.length (Evt.a (Ask.ev z0))) (Evt.ca (Ask.ev z0)) (List.length (Evt.v (Ask.ev z0))) (Evt.cv (Ask.ev z0)) (List.length (Evt.m (Ask.ev z0))) (Evt.cm (Ask.ev z0)) (List.length (Ask.vs z0)) (Ask.cs z0) (Ask.fr z0) (Ask.to z0) (Ask.mu z0) (Ask.pl z0) (some (.row .still 1 0 (List.length (Evt.a (Ask.ev z0))) (encL (Evt.a (Ask.ev z0))))) (some (.row .still 3 0 (List.length (Evt.v (Ask.ev z0))) (encL (Evt.v (Ask.ev z0))))) (some (.row .still 3 0 (List.length (Evt.m (Ask.ev z0))) (encL (Evt.m (Ask.ev z0))))) (some (.row .still 3 0 (List.length (Ask.vs z0)) (encL (Ask.vs z0)))))))))) es)) a d b m c (IntKind.wrap .i64 (i + (1 : Int)))))))))) (br (samK (rowL Vl m.length (some (.row .look 3 0 m.length (encL m)))) (fiX (Evt.k (Ask.ev z0)) (Evt.s (Ask.ev z0)) (Evt.i (Ask.ev z0)) (Evt.w (Ask.ev z0)) (Evt.e (Ask.ev z0)) (List.length (Evt.a (Ask.ev z0))) (Evt.ca (Ask.ev z0)) (List.length (Evt.v (Ask.ev z0))) (Evt.cv (Ask.ev z0)) (List.length (Evt.m (Ask.ev z0))) (Evt.cm (Ask.ev z0)) (List.length (Ask.vs z0)) (Ask.cs z0) (Ask.fr z0) (Ask.to z0) (Ask.mu z0) (Ask.pl z0) (some (.row .still 1 0 (List.length (Evt.a (Ask.ev z0))) (encL (Evt.a (Ask.ev z0))))) (some (.row .still 3 0 (List.length (Evt.v (Ask.ev z0))) (encL (Evt.v (Ask.ev z0))))) (some (.row .still 3 0 (List.length (Evt.m (Ask.ev z0))) (encL (Evt.m (Ask.ev z0))))) (some (.row .still 3 0 (List.length (Ask.vs z0)) (encL (Ask.vs z0))))) (List.length (rowL Int (List.length (Evt.a (Ask.ev z0))) (some (.row .still 1 0 (List.length (Evt.a (Ask.ev z0))) (encL (Evt.a (Ask.ev z0)))))))) (need (fiB m.length c (fiX
 (Evt.k (Ask.ev z0)) (Evt.s (Ask.ev z0)) (Evt.i (Ask.ev z0)) (Evt.w (Ask.ev z0)) (Evt.e (Ask.ev z0)) (List.length (Evt.a (Ask.ev z0))) (Evt.ca (Ask.ev z0)) (List.length (Evt.v (Ask.ev z0))) (Evt.cv (Ask.ev z0)) (List.length (Evt.m (Ask.ev z0))) (Evt.cm (Ask.ev z0)) (List.length (Ask.vs z0)) (Ask.cs z0) (Ask.fr z0) (Ask.to z0) (Ask.mu z0) (Ask.pl z0) (some (.row .still 1 0 (List.length (Evt.a (Ask.ev z0))) (encL (Evt.a (Ask.ev z0))))) (some (.row .still 3 0 (List.length (Evt.v (Ask.ev z0))) (encL (Evt.v (Ask.ev z0))))) (some (.row .still 3 0 (List.length (Evt.m (Ask.ev z0))) (encL (Evt.m (Ask.ev z0))))) (some (.row .still 3 0 (List.length (Ask.vs z0)) (encL (Ask.vs z0))))) (List.length (Evt.a (Ask.ev z0))) (List.length (Evt.v (Ask.ev z0))) (List.length (Evt.m (Ask.ev z0))) (List.length (Ask.vs z0)) (some (.row .look 3 0 m.length (encL m))) (some (.row .still 1 0 (List.length (Evt.a (Ask.ev z0))) (encL (Evt.a (Ask.ev z0))))) (some (.row .still 3 0 (List.length (Evt.v (Ask.ev z0))) (encL (Evt.v (Ask.ev z0))))) (some (.row .still 3 0 (List.length (Evt.m (Ask.ev z0))) (encL (Evt.m (Ask.ev z0))))) (some (.row .still 3 0 (List.length (Ask.vs z0)) (encL (Ask.vs z0)))) && inR (rowL Vl m.length (some (.row .look 3 0 m.length (encL m)))) (fiX (Evt.k (Ask.ev z0)) (Evt.s (Ask.ev z0)) (Evt.i (Ask.ev z0)) (Evt.w (Ask.ev z0)) (Evt.e (Ask.ev z0)) (List.length (Evt.a (Ask.ev z0))) (Evt.ca (Ask.ev z0)) (List.length (Evt.v (Ask.ev z0))) (Evt.cv (Ask.ev z0)) (List.length (Evt.m (Ask.ev z0))) (Evt.cm (Ask.ev z0)) (List.length (Ask.vs z0)) (Ask.cs z0) (Ask.fr z0) (Ask.to z0) (Ask.mu z0) (Ask.pl z0) (some (.row .still 1 0 (List.length (Evt.a (Ask.ev z0))) (encL (Evt.a (Ask.ev z0))))) (some (.row .still 3 0 (List.length (Evt.v (Ask.ev z0))) (encL (Evt.v (Ask.ev z0))))) (some (.row .still 3 0 (List.length (Evt.m (Ask.ev z0))) (encL (Evt.m (Ask.ev z0))))) (some (.row .still 3 0 (List.length (Ask.vs z0)) (encL (Ask.vs z0)))))) (need (decide ((0 : Int) ≤ i)) (need (rowB Evt l.length cl (some (.row .look 8 0 l.length (encL l))) && rowB Ev.Ask A.length ca (some (.row .look 13 0 A.length (encL A))) && rowB Vl m.length c (some (.row .look 3 0 m.length (encL m))) && okS (rowL Evt l.length (some (.row .look 8 0 l.length (encL l)))) (rowL Ev.Ask A.length (some (.row .look 13 0 A.length (encL A)))) f a (IntKind.wrap .u64 (Int.ofNat (BitVec.toNat (BitVec.ofInt 64 d ||| BitVec.ofInt 64 (IntKind.wrap .u64 ((1 : Int) * (2 : Int) ^ min (Int.toNat i) 64)))))) b (rowL Vl m.length (some (.row .look 3 0 m.length (encL m))))) (need (rowB Evt l.length cl (some (.row .look 8 0 l.length (encL l))) && rowB Ev.Ask A.length ca (some (.row .look 13 0 A.length (encL A))) && rowB Vl m.length c (some (.row .look 3 0 m.length (encL m))) && okS (rowL Evt l.length (some (.row .look 8 0 l.length (encL l)))) (rowL Ev.Ask A.length (some (.row .look 13 0 A.length (encL A)))) f a (IntKind.wrap .u64 (Int.ofNat (BitVec.toNat (BitVec.ofInt 64 d ||| BitVec.ofInt 64 (IntKind.wrap .u64 ((1 : Int) * (2 : Int) ^ min (Int.toNat i) 64)))))) b (rowL Vl m.length (some (.row .look 3 0 m.length (encL m))))) (br (Prod.fst (goL (rowL Evt l.length (some (.row .look 8 0 l.length (encL l)))) (rowL Ev.Ask A.length (some (.row .look 13 0 A.length (encL A)))) f a (IntKind.wrap .u64 (Int.ofNat (BitVec.toNat (BitVec.ofInt 64 d ||| BitVec.ofInt 64 (IntKind.wrap .u64 ((1 : Int) * (2 : Int) ^ min (Int.toNat i) 64)))))) b (rowL Vl m.length (some (.row .look 3 0 m.length (encL m)))) es)) (onP N .ret (shpPr l cl A ca (Prod.snd (goL (rowL Evt l.length (some (.row .look 8 0 l.length (encL l)))) (rowL Ev.Ask A.length (some (.row .look 13 0 A.length (encL A)))) f a (IntKind.wrap .u64 (Int.ofNat (BitVec.toNat (BitVec.ofInt 64 d ||| BitVec.ofInt 64 (IntKind.wrap .u64 ((1 : Int) * (2 : Int) ^ min (Int.toNat i) 64)))))) b (rowL Vl m.length (some (.row .look 3 0 m.length (encL m)))) es)) m true)) (onP N .normal (shpPl l cl A ca (Prod.snd (goL (rowL Evt l.length (some (.row .look 8 0 l.length (encL l)))) (rowL Ev.Ask A.length
 (some (.row .look 13 0 A.length (encL A)))) f a (IntKind.wrap .u64 (Int.ofNat (BitVec.toNat (BitVec.ofInt 64 d ||| BitVec.ofInt 64 (IntKind.wrap .u64 ((1 : Int) * (2 : Int) ^ min (Int.toNat i) 64)))))) b (rowL Vl m.length (some (.row .look 3 0 m.length (encL m)))) es)) a d b m c (IntKind.wrap .i64 (i + (1 : Int)))))))))) (need (fiB m.length c (fiX (Evt.k (Ask.ev z0)) (Evt.s (Ask.ev z0)) (Evt.i (Ask.ev z0)) (Evt.w (Ask.ev z0)) (Evt.e (Ask.ev z0)) (List.length (Evt.a (Ask.ev z0))) (Evt.ca (Ask.ev z0)) (List.length (Evt.v (Ask.ev z0))) (Evt.cv (Ask.ev z0)) (List.length (Evt.m (Ask.ev z0))) (Evt.cm (Ask.ev z0)) (List.length (Ask.vs z0)) (Ask.cs z0) (Ask.fr z0) (Ask.to z0) (Ask.mu z0) (Ask.pl z0) (some (.row .still 1 0 (List.length (Evt.a (Ask.ev z0))) (encL (Evt.a (Ask.ev z0))))) (some (.row .still 3 0 (List.length (Evt.v (Ask.ev z0))) (encL (Evt.v (Ask.ev z0))))) (some (.row .still 3 0 (List.length (Evt.m (Ask.ev z0))) (encL (Evt.m (Ask.ev z0))))) (some (.row .still 3 0 (List.length (Ask.vs z0)) (encL (Ask.vs z0))))) (List.length (Evt.a (Ask.ev z0))) (List.length (Evt.v (Ask.ev z0))) (List.length (Evt.m (Ask.ev z0))) (List.length (Ask.vs z0)) (some (.row .look 3 0 m.length (encL m))) (some (.row .still 1 0 (List.length (Evt.a (Ask.ev z0))) (encL (Evt.a (Ask.ev z0))))) (some (.row .still 3 0 (List.length (Evt.v (Ask.ev z0))) (encL (Evt.v (Ask.ev z0))))) (some (.row .still 3 0 (List.length (Evt.m (Ask.ev z0))) (encL (Evt.m (Ask.ev z0))))) (some (.row .still 3 0 (List.length (Ask.vs z0)) (encL (Ask.vs z0)))) && inR (rowL Vl m.length (some (.row .look 3 0 m.length (encL m)))) (fiX (Evt.k (Ask.ev z0)) (Evt.s (Ask.ev z0)) (Evt.i (Ask.ev z0)) (Evt.w (Ask.ev z0)) (Evt.e (Ask.ev z0)) (List.length (Evt.a (Ask.ev z0))) (Evt.ca (Ask.ev z0)) (List.length (Evt.v (Ask.ev z0))) (Evt.cv (Ask.ev z0)) (List.length (Evt.m (Ask.ev z0))) (Evt.cm (Ask.ev z0)) (List.length (Ask.vs z0)) (Ask.cs z0) (Ask.fr z0) (Ask.to z0) (Ask.mu z0) (Ask.pl z0) (some (.row .still 1 0 (List.length (Evt.a (Ask.ev z0))) (encL (Evt.a (Ask.ev z0))))) (some (.row .still 3 0 (List.length (Evt.v (Ask.ev z0))) (encL (Evt.v (Ask.ev z0))))) (some (.row .still 3 0 (List.length (Evt.m (Ask.ev z0))) (encL (Evt.m (Ask.ev z0))))) (some (.row .still 3 0 (List.length (Ask.vs z0)) (encL (Ask.vs z0)))))) (onP N .normal (shpPl l cl A ca es a d b m c (IntKind.wrap .i64 (i + (1 : Int))))))))))))))))) (onP N (.exit 0) (shpPl l cl A ca es a d b m c i)))) (List.getD A (0 + Int.toNat i) Enc.dflt)) := by kernel_rfl
end Go.Proofs.Ytjibiphgbhlhkaa.Ev
end
section
set_option maxRecDepth 100000
namespace Go.Proofs.Ytjibiphgbhlhkaa.Ev
open Go Go.Proofs Go.RowKit
structure PlI (l : List Evt) (A : List Ask) (f : Nat) (a d : Int) (b : Bool) (m : List Vl) (r : Bool × Es) (p : Nat × Es) : Prop where
 le : p.1 ≤ A.length
 eq : plL (goL l A f) A a d b m (A.length - p.1) p.1 p.2 = r
theorem pl_round {l : List Evt} {cl : Nat} {A : List Ask} {ca : Nat} {a d : Int} {b : Bool} {m : List Vl} {c : Nat} {r : Bool × Es} {f : Nat} {β : Bs} (hβ : β.X.length = 5) (hG : ToldS Try.prog (toldG f)) (hcl : cl ≤ 1) (hca : ca ≤ 1) (hc : c ≤ 1) (ho : OkS l A (f + 1) a d b m)
  (p : Nat × Es) (hp : PlI l A f a d b m r p) (K : Kt) (hK : exPl l cl A ca a d b m c r 0 K) :
  J Try.prog β (loopOf Try.prog 22 0) (FPl A ca (p.1 : Nat)) (SPl l cl A ca p.2 a d b m c) (Nn β (PlI l A f a d b m r) (fun p => A.length - p.1) (fun p : Nat × Es => FPl A ca (p.1 : Nat)) (fun p => SPl l cl A ca p.2 a d b m c) p K) := by
 obtain ⟨k, es⟩ := p
 obtain ⟨hk, he⟩ := hp
 obtain ⟨hK1, hK2⟩ := hK
 refine roundJ_ok (E := 5) (lvs := fun _ => slPl) (un := fun _ => 0) (fuel := 100) (n := 20) (ex := fun _ _ => False) follows hG hβ (lv := lvPl) ?_
 rw [vc_pl_r]
 have hA := ho.hA
 have hL := ho.hl
 have hM := ho.hm
 by_cases hkn : k < A.length
 ·have c1 : decide ((k : Int) < Int.ofNat A.length) = true := by simpa using hkn
  have c2 : decide ((0 : Int) ≤ (k : Int)) = true := by simp
  have e0 : Int.toNat (k : Int) = k := Int.toNat_natCast k
  have c3 : Nat.blt k A.length = true := by simpa using hkn
  have c5 : Nat.ble 0 k = true := by simp
  have hw : IntKind.wrap .i64 ((k : Int) + 1) = ((k + 1 : Nat) : Int) := w64 (by omega) (by omega)
  have hx := all_get' ho.Ae hkn
  have hrg := fun hb hp => rng_at (ho.hr hb) hkn hp
  have hsub : A.length - k = (A.length - (k + 1)) + 1 := by omega
  rw [hsub] at he
  unfold plL at he
  have hel : elig A a d b k = ((A.getD k Enc.dflt).pl && (!bitB d k && (!decide ((A.getD k Enc.dflt).fr ≥ a) && (!decide ((A.getD k Enc.dflt).to < a) && b)))) := rfl
  rw [hel] at he
  have hbit : (bitV d k == 1) = bitB d k := rfl
  have hset : IntKind.wrap .u64 (Int.ofNat (BitVec.toNat (BitVec.ofInt 64 d ||| BitVec.ofInt 64 (IntKind.wrap .u64 (1 * (2 : Int) ^ min k 64))))) = setB d k := rfl
  have hbv : IntKind.wrap .u64 (Int.ofNat (BitVec.toNat (BitVec.ofInt 64 (Int.fdiv d ((2 : Int) ^ min k 64)) &&& BitVec.ofInt 64 1))) = bitV d k := rfl
  have hplace := fun hb (m' : List Vl) (hm : m'.length = m.length) => okS_iff.2 (ho.place (i := k) (m' := m') hkn hb hm)
  simp only [c1, c2, e0, Nat.zero_add, c3, c5, Bool.true_and, br_t, need_t, hw]
  simp only [fiX_enc, rowL_enc, hset, hbv, hbit]
  generalize A.getD k Enc.dflt = x at he hx hrg ⊢
  have hnext : ∀ es' : Es, plL (goL l A f) A a d b m (A.length - (k + 1)) (k + 1) es' = r → onP (Nn β (PlI l A f a d b m r) (fun p => A.length - p.1) (fun p : Nat × Es => FPl A ca (p.1 : Nat)) (fun p => SPl l cl A ca p.2 a d b m c) (k, es) K) .normal (shpPl l cl A ca es' a d b m c ((k + 1 : Nat) : Int)) := fun es' h =>
   Nn.next (I := PlI l A f a d b m r) (m := fun p => A.length - p.1) (F := fun p : Nat × Es => FPl A ca (p.1 : Nat)) (S := fun p => SPl l cl A ca p.2 a d b m c) (p := (k, es)) (k + 1, es') ⟨hkn, h⟩ (by show A.length - (k + 1) < A.length - k; omega) (Seen.refl _ _ _)
  have hret : ∀ es' : Es, (true, es') = r → onP (Nn β (PlI l A f a d b m r) (fun p => A.length - p.1) (fun p : Nat × Es => FPl A ca (p.1 : Nat)) (fun p => SPl l cl A ca p.2 a d b m c) (k, es) K) .ret (shpPr l cl A ca es' m true) := fun es' h => by
   subst h
   exact Nn.ret (Seen.refl _ _ _) (hK1 rfl)
  have rb1 : rowB Evt l.length cl (some (.row .look 8 0 l.length (encL l))) = true := rowB_of .look rfl rfl ho.le (by omega) hcl
  have rb2 : rowB Ask A.length ca (some (.row .look 13 0 A.length (encL A))) = true := rowB_of .look rfl rfl ho.Ae (by omega) hca
  have rb3 : ∀ (kd : Rk) (M : List Vl), M.length = m.length → rowB Vl m.length c (some (.row kd 3 0 M.length (encL M))) = true := fun kd M hM' => by rw [hM']; exact rowB_of (α := Vl) kd rfl hM'.symm (allV _) (by omega) hc
  have hfi := fiB_of hx (m := m) (by omega) hc .look
  cases hpl : x.pl with
  | false => rw [hpl] at he; exact hnext es he
  | true =>
   rw [hpl] at he
   simp only [Bool.not_true, br_f, Bool.true_and] at he ⊢
   cases hbk : bitB d k with
   | true => rw [hbk] at he; exact hnext es he
   | false =>
    rw [hbk] at he
    simp only [Bool.not_false, br_f, Bool.true_and] at he ⊢
    cases hfr : decide (x.fr ≥ a) with
    | true => rw [hfr] at he; exact hnext es he
    | false =>
     rw [hfr] at he
     simp only [Bool.not_false, br_f, Bool.true_and] at he ⊢
     cases hto : decide (x.to < a) with
     | true => rw [hto] at he; exact hnext es he
     | false =>
      rw [hto] at he
      simp only [Bool.not_false, br_f, Bool.true_and] at he ⊢
      cases hbb : b with
      | false => rw [hbb] at he; subst hbb; exact hnext es he
      | true =>
       have hin := hrg hbb hpl
       rw [hbb] at he
       subst hbb
       simp only [Bool.not_true, br_f, cond_true] at he ⊢
       have hp1 := hplace hbk (nxt m x) (nxt_len m x)
       have hp2 := hplace hbk m rfl
       have hn := rb3 .mine (nxt m x) (nxt_len m x)
       have hn0 := rb3 .look m rfl
       have hrl : rowL Vl m.length (some (.row .mine 3 0 (nxt m x).length (encL (nxt m x)))) = nxt m x := by
        show decL m.length (encL (nxt m x)) = _
        rw [show m.length = (nxt m x).length from (nxt_len m x).symm]
        exact decL_encL _
       simp only [hrl, hfi, rb1, rb2, hn, hn0, hp1, hp2, inRn_eq, hin, Bool.and_self, Bool.true_and, Bool.and_true, need_t]
       cases hxw : x.ev.w with
       | true =>
        rw [hxw] at he
        simp only [br_t, cond_true] at he ⊢
        unfold orE at he
        cases hq : (goL l A f a (setB d k) true (nxt m x) es).1 with
        | true => rw [hq] at he; exact hret _ he
        | false => rw [hq] at he; exact hnext _ he
       | false =>
        rw [hxw] at he
        simp only [br_f, cond_false] at he ⊢
        cases hs : samK m x x.ev.a.length with
        | true =>
         rw [hs] at he
         simp only [br_t, cond_true] at he ⊢
         unfold orE at he
         cases hq : (goL l A f a (setB d k) true m es).1 with
         | true => rw [hq] at he; exact hret _ he
         | false => rw [hq] at he; exact hnext _ he
        | false => rw [hs] at he; exact hnext es he
 ·have c1 : decide ((k : Int) < Int.ofNat A.length) = false := by simpa using hkn
  have hkn' : k = A.length := by have : k ≤ A.length := hk; omega
  subst hkn'
  simp only [c1, br_f]
  have he : (false, es) = r := by simpa [plL] using he
  subst he
  exact Nn.exit (Seen.refl _ _ _) (hK2 rfl)
def plF (l : List Evt) (A : List Ask) (f : Nat) : GoF := fun a d b m es => plL (goL l A f) A a d b m A.length 0 es
theorem places_law {l : List Evt} {cl : Nat} {A : List Ask} {ca : Nat} {es : Es} {a d : Int} {b : Bool} {m : List Vl} {c : Nat} {f : Nat} {β : Bs} (hβ : β.X.length = 5) (hG : ToldS Try.prog (toldG f)) (hcl : cl ≤ 1) (hca : ca ≤ 1) (hc : c ≤ 1) (ho : OkS l A (f + 1) a d b m) (bb : Bool) :
  lawE Try.prog (toldG f) 100 20 β (fun _ => 0) (cnOf 5 fun _ => slPl) (exPl l cl A ca a d b m c (plF l A f a d b m es)) 22 [.pointer (some ⟨0, 0, none⟩), .agg ⟨svV a d b m c⟩] (mkS (viS l cl A ca es m))
   (outR (effK ⟨bb, viS l cl A ca es m, .returned (.bool (plF l A f a d b m es).1), [.to (xO l.length cl A.length ca), .same, .same, .to (.omap .s .b (plF l A f a d b m es).2), .same], []⟩)) := by
 have hout : ∀ s : Sp, outR (effK s) = outK fun r l => ∃ l2, objsR l l2 ∧ effK s r (mkS l2) := fun s => rfl
 rw [hout, vc_pl]
 refine ⟨?_, fun hr => ?_, fun hr => ?_⟩
 ·exact loop_rule (PlI l A f a d b m (plF l A f a d b m es)) (fun p : Nat × Es => FPl A ca (p.1 : Nat)) (fun p => SPl l cl A ca p.2 a d b m c) (fun p => A.length - p.1) (fun p hp K hK => pl_round hβ hG hcl hca hc ho p hp K hK) (0, es) ⟨Nat.zero_le _, rfl⟩
 ·rw [hr]; exact effG rfl rfl
 ·rw [hr]; exact effG rfl rfl
end Go.Proofs.Ytjibiphgbhlhkaa.Ev
end
section
set_option maxRecDepth 100000
namespace Go.Proofs.Ytjibiphgbhlhkaa.Ev
open Go Go.Proofs Go.RowKit
theorem blocked_succ (A : List Ask) (a d : Int) (n : Nat) : Ev.blocked A a d (n + 1) = (Ev.blocked A a d n || lacks A a d n) := by
 unfold Ev.blocked
 rw [List.range_succ, List.any_append]
 simp
theorem blocked_at {A : List Ask} {a d : Int} {n k : Nat} (hk : k < n) (h : lacks A a d k = true) : Ev.blocked A a d n = true := by
 unfold Ev.blocked
 exact List.any_eq_true.2 ⟨k, List.mem_range.2 hk, h⟩
theorem ps_round {l : List Evt} {cl : Nat} {A : List Ask} {ca : Nat} {es : Es} {a d : Int} {b : Bool} {m : List Vl} {c : Nat} {f : Nat} {β : Bs} (hβ : β.X.length = 5) (hG : ToldS Try.prog (toldG f)) (ho : OkS l A (f + 1) a d b m)
  (k : Nat) (hp : k ≤ A.length ∧ Ev.blocked A a d k = false) (K : Kt) (hK : exPs l cl A ca es a d b m c 1 K) :
  J Try.prog β (loopOf Try.prog 21 1) (FPs A ca (k : Nat)) (SPl l cl A ca es a d b m c) (Nn β (fun k => k ≤ A.length ∧ Ev.blocked A a d k = false) (fun p => A.length - p) (fun p : Nat => FPs A ca (p : Nat)) (fun _ => SPl l cl A ca es a d b m c) k K) := by
 obtain ⟨hk, hb⟩ := hp
 obtain ⟨hK1, hK2⟩ := hK
 refine roundJ_ok (E := 5) (lvs := fun _ => slPs) (un := fun _ => 0) (fuel := 100) (n := 20) (ex := fun _ _ => False) follows hG hβ (lv := lvPs) ?_
 rw [vc_ps_r]
 have hA := ho.hA
 by_cases hkn : k < A.length
 ·have c1 : decide ((k : Int) < Int.ofNat A.length) = true := by simpa using hkn
  have c2 : decide ((0 : Int) ≤ (k : Int)) = true := by simp
  have e0 : Int.toNat (k : Int) = k := Int.toNat_natCast k
  have c3 : Nat.blt k A.length = true := by simpa using hkn
  have c5 : Nat.ble 0 k = true := by simp
  have hw : IntKind.wrap .i64 ((k : Int) + 1) = ((k + 1 : Nat) : Int) := w64 (by omega) (by omega)
  have hbv : IntKind.wrap .u64 (Int.ofNat (BitVec.toNat (BitVec.ofInt 64 (Int.fdiv d ((2 : Int) ^ min k 64)) &&& BitVec.ofInt 64 (1 : Int)))) = bitV d k := rfl
  have hlk : lacks A a d k = ((A.getD k Enc.dflt).mu && ((A.getD k Enc.dflt).to == a && (bitV d k == 0))) := rfl
  simp only [c1, c2, e0, Nat.zero_add, c3, c5, Bool.true_and, br_t, need_t, hw, hbv]
  generalize A.getD k Enc.dflt = x at hlk ⊢
  have hnext : lacks A a d k = false → onP (Nn β (fun k => k ≤ A.length ∧ Ev.blocked A a d k = false) (fun p => A.length - p) (fun p : Nat => FPs A ca (p : Nat)) (fun _ => SPl l cl A ca es a d b m c) k K) .normal (shpPs l cl A ca es a d b m c ((k + 1 : Nat) : Int)) := fun h =>
   Nn.next (I := fun k => k ≤ A.length ∧ Ev.blocked A a d k = false) (m := fun p => A.length - p) (F := fun p : Nat => FPs A ca (p : Nat)) (S := fun _ => SPl l cl A ca es a d b m c) (p := k) (k + 1) ⟨hkn, by rw [blocked_succ, hb, h]; rfl⟩ (by show A.length - (k + 1) < A.length - k; omega) (Seen.refl _ _ _)
  cases hmu : x.mu with
  | false => rw [hmu] at hlk; exact hnext hlk
  | true =>
   cases hto : x.to == a with
   | false => rw [hmu, hto] at hlk; exact hnext hlk
   | true =>
    cases hq : bitV d k == 0 with
    | false => rw [hmu, hto, hq] at hlk; exact hnext hlk
    | true =>
     rw [hmu, hto, hq] at hlk
     exact Nn.ret (Seen.refl _ _ _) (hK1 (blocked_at hkn hlk))
 ·have c1 : decide ((k : Int) < Int.ofNat A.length) = false := by simpa using hkn
  have hkn' : k = A.length := by omega
  subst hkn'
  simp only [c1, br_f]
  exact Nn.exit (Seen.refl _ _ _) (hK2 hb)
def psF (l : List Evt) (A : List Ask) (f : Nat) : GoF := fun a d b m es => psL (goL l A f) l A a d b m es
theorem passes_law {l : List Evt} {cl : Nat} {A : List Ask} {ca : Nat} {es : Es} {a d : Int} {b : Bool} {m : List Vl} {c : Nat} {f : Nat} {β : Bs} (hβ : β.X.length = 5) (hG : ToldS Try.prog (toldG f)) (hcl : cl ≤ 1) (hca : ca ≤ 1) (hc : c ≤ 1) (ho : OkS l A (f + 1) a d b m) (bb : Bool) :
  lawE Try.prog (toldG f) 100 20 β (fun _ => 0) (cnOf 5 fun _ => slPs) (exPs l cl A ca es a d b m c) 21 [.pointer (some ⟨0, 0, none⟩), .agg ⟨svV a d b m c⟩] (mkS (viS l cl A ca es m))
   (outR (effK ⟨bb, viS l cl A ca es m, .returned (.bool (psF l A f a d b m es).1), [.to (xO l.length cl A.length ca), .same, .same, .to (.omap .s .b (psF l A f a d b m es).2), .same], []⟩)) := by
 have hout : ∀ s : Sp, outR (effK s) = outK fun r l => ∃ l2, objsR l l2 ∧ effK s r (mkS l2) := fun s => rfl
 rw [hout, vc_ps]
 have hL := ho.hl
 have hA := ho.hA
 have hM := ho.hm
 have ha0 := ho.a0
 have ha1 := ho.a1
 have hF : psF l A f a d b m es = psL (goL l A f) l A a d b m es := rfl
 generalize psF l A f a d b m es = r at hF ⊢
 unfold psL at hF
 by_cases hend : a = Int.ofNat l.length
 ·have c1 : (a == Int.ofNat l.length) = true := by simpa using hend
  rw [c1, cond_true] at hF
  subst hF
  simp only [c1, br_t]
  exact effG rfl rfl
 ·have c1 : (a == Int.ofNat l.length) = false := by simpa using hend
  have halt : a < l.length := by simp only [Int.ofNat_eq_natCast] at hend; omega
  have c2 : decide ((0 : Int) ≤ a) = true := by simpa using ha0
  have c3 : Nat.blt a.toNat l.length = true := by simp; omega
  have c5 : Nat.ble 0 a.toNat = true := by simp
  have hw : IntKind.wrap .i64 (a + 1) = a + 1 := by
   have := w64 (x := ((a.toNat + 1 : Nat) : Int)) (by omega) (by omega)
   have e : ((a.toNat + 1 : Nat) : Int) = a + 1 := by omega
   rw [← e]; exact this
  have hmem : l.getD a.toNat Enc.dflt ∈ l := getD_mem _ (by omega)
  have hxe := all_get' ho.le (show a.toNat < l.length by omega)
  obtain ⟨a1, a2, a3, a4, a5, a6⟩ := okA_ev_inv hxe
  have h3 := ho.h3 _ hmem
  have rb1 : rowB Evt l.length cl (some (.row .look 8 0 l.length (encL l))) = true := rowB_of .look rfl rfl ho.le (by omega) hcl
  have rb2 : rowB Ask A.length ca (some (.row .look 13 0 A.length (encL A))) = true := rowB_of .look rfl rfl ho.Ae (by omega) hca
  have rb3 : rowB Vl m.length c (some (.row .look 3 0 m.length (encL m))) = true := rowB_of (α := Vl) .look rfl rfl (allV _) (by omega) hc
  have hpass : okS l A f (a + 1) d b m = true := okS_iff.2 (ho.pass halt hM ho.hr)
  simp only [c1, c2, Nat.zero_add, c3, c5, Bool.true_and, br_f, need_t, hw, rowL_enc, rb1, rb2, rb3, hpass]
  generalize l.getD a.toNat Enc.dflt = x at hF hxe h3 a1 a2 a3 a4 a5 a6 ⊢
  rw [c1, cond_false] at hF
  by_cases hx3 : x.k = 3
  ·have d1 : (x.k == 3) = true := by simpa using hx3
   obtain ⟨q1, q2⟩ := h3 hx3
   have rb4 : rowB Vl x.m.length x.cm (some (.row .still 3 0 x.m.length (encL x.m))) = true := rowB_of (α := Vl) .still rfl rfl (allV _) a6 a5
   have hpass' : okS l A f (a + 1) d true x.m = true := okS_iff.2 (ho.pass halt q2 fun _ => q1)
   rw [d1, cond_true] at hF
   subst hF
   simp only [d1, br_t, rb4, hpass', Bool.true_and, need_t]
   exact effG rfl rfl
  ·have d1 : (x.k == 3) = false := by simpa using hx3
   rw [d1, cond_false] at hF
   simp only [d1, br_f]
   by_cases hx2 : x.k = 2
   ·have d2 : (x.k == 2) = true := by simpa using hx2
    rw [d2, Bool.true_and] at hF
    simp only [d2, br_t]
    refine ⟨?_, fun hr => ?_, fun hr => ?_⟩
    ·exact loop_rule (fun k => k ≤ A.length ∧ Ev.blocked A a d k = false) (fun p : Nat => FPs A ca (p : Nat)) (fun _ => SPl l cl A ca es a d b m c) (fun p => A.length - p) (fun p hp K hK => ps_round hβ hG ho p hp K hK) 0 ⟨Nat.zero_le _, rfl⟩
    ·rw [hr, cond_true] at hF
     subst hF
     exact effG rfl rfl
    ·rw [hr, cond_false] at hF
     subst hF
     exact effG rfl rfl
   ·have d2 : (x.k == 2) = false := by simpa using hx2
    rw [d2, Bool.false_and, cond_false] at hF
    subst hF
    simp only [d2, br_f]
    exact effG rfl rfl
theorem passesN_law {l : List Evt} {cl : Nat} {A : List Ask} {ca : Nat} {es : Es} {f : Nat} {β : Bs} (hβ : β.X.length = 4) (hG : ToldS Try.prog (toldG f)) (hcl : cl ≤ 1) (hca : ca ≤ 1) (ho : OkS l A (f + 1) 0 0 false []) (h0 : l.length = 0 ∨ (l.getD 0 Enc.dflt).k = 3) (bb : Bool) :
  lawE Try.prog (toldG f) 100 20 β (fun _ => 0) (cnOf 4 fun _ => slPs) (fun _ _ => False) 21 [.pointer (some ⟨0, 0, none⟩), .agg ⟨svN⟩] (mkS (viN l cl A ca es))
   (outR (effK ⟨bb, viN l cl A ca es, .returned (.bool (psF l A f 0 0 false [] es).1), [.to (xO l.length cl A.length ca), .same, .same, .to (.omap .s .b (psF l A f 0 0 false [] es).2)], []⟩)) := by
 have hout : ∀ s : Sp, outR (effK s) = outK fun r l => ∃ l2, objsR l l2 ∧ effK s r (mkS l2) := fun s => rfl
 rw [hout, vc_psn]
 have hL := ho.hl
 have hA := ho.hA
 have hF : psF l A f 0 0 false [] es = psL (goL l A f) l A 0 0 false [] es := rfl
 generalize psF l A f 0 0 false [] es = r at hF ⊢
 unfold psL at hF
 by_cases hend : l.length = 0
 ·have c1 : ((0 : Int) == Int.ofNat l.length) = true := by simp [hend]
  rw [c1, cond_true] at hF
  subst hF
  simp only [c1, br_t]
  exact effGN rfl rfl
 ·have c1 : ((0 : Int) == Int.ofNat l.length) = false := by simp; omega
  have c3 : Nat.blt 0 l.length = true := by simp; omega
  have hk3 := h0.resolve_left hend
  have hmem : l.getD 0 Enc.dflt ∈ l := getD_mem _ (by omega)
  have hxe := all_get' ho.le (show 0 < l.length by omega)
  obtain ⟨a1, a2, a3, a4, a5, a6⟩ := okA_ev_inv hxe
  have h3 := ho.h3 _ hmem hk3
  have rb1 : rowB Evt l.length cl (some (.row .look 8 0 l.length (encL l))) = true := rowB_of .look rfl rfl ho.le (by omega) hcl
  have rb2 : rowB Ask A.length ca (some (.row .look 13 0 A.length (encL A))) = true := rowB_of .look rfl rfl ho.Ae (by omega) hca
  simp only [c1, c3, Bool.true_and, br_f, need_t, rowL_enc, rb1, rb2]
  rw [c1, cond_false] at hF
  have e00 : Int.toNat (0 : Int) = 0 := rfl
  rw [e00] at hF
  generalize l.getD 0 Enc.dflt = x at hF hxe h3 hk3 a1 a2 a3 a4 a5 a6 ⊢
  have d1 : (x.k == 3) = true := by simpa using hk3
  obtain ⟨q1, q2⟩ := h3
  have rb4 : rowB Vl x.m.length x.cm (some (.row .still 3 0 x.m.length (encL x.m))) = true := rowB_of (α := Vl) .still rfl rfl (allV _) a6 a5
  have hpass' : okS l A f 1 0 true x.m = true := okS_iff.2 (ho.pass (by omega) q2 fun _ => q1)
  rw [d1, cond_true] at hF
  subst hF
  simp only [d1, br_t, rb4, hpass', Bool.true_and, need_t]
  exact effGN rfl rfl
end Go.Proofs.Ytjibiphgbhlhkaa.Ev
end
