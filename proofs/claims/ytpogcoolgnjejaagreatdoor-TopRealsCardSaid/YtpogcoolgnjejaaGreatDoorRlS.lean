/-
  TopReals at the heads of its pieces: what lies in memory (b: how many objects lie ahead of the client).
-/
import Derived.Test.YtpogcoolgnjejaaGreatDoorGg
import Derived.Test.YtpogcoolgnjejaaGreatDoorGh
set_option linter.unusedVariables false
namespace Go.Proofs.YtpogcoolgnjejaaGreatDoor.Ev
open Go
noncomputable section
def qI (x : Int) : Value := .int .i64 x
def qR (x : Nat) : Value := .float .f64 x
def repF {α : Type} (f : Nat → List α) : Nat → List α
  | 0 => []
  | n + 1 => repF f n ++ f n
def rlVars : AObj := .cells [.string ⟨#[114]⟩, qi 3, qi 5, qi 0, qi 5, qi 0, qf, qi 0, qi 0, qf, .string ⟨#[115]⟩, qi 3, qi 5, qi 0, qi 5, qi 0, qf, qi 0, qi 0, qf] false 10
def rlBody : AObj := .cells [qi 1, qi 2, qi 5, .string ⟨#[115]⟩, qe, qi 1, qi 0, qi 0, qi 0, qf, q0, qi 2, qi 5, .string ⟨#[114]⟩, qe, qi 0, qi 0, qi 0, qi 0, qf, q0, q0, q0, qe, qi 0, qi 0, q0] false 27
def rlCode : AObj := .cells [qi 2, qi 0, qi 0, qi 0, qi 0, qi 0, qf, qi 18, qi 0, qi 1, qi 0, qi 0, qi 0, qf, qi 23, qi 0, qi 0, qi 0, qi 0, qi 0, qf] false 7
def rlImg (r s : Nat) : AObj := .cells [qi 5, qi 0, qR r, qi 5, qi 0, qR s] false 3
def rlVal (e : Bool) (r : Nat) : AObj := .cells [qi 5, qi 0, qR r] e 3
def rlP1 (e : Bool) : AObj := .cells [.string ⟨#[114]⟩] e 1
def rlP2 (e : Bool) : AObj := .cells [.string ⟨#[114]⟩, .string ⟨#[115]⟩] e 1
def rlMsg (k id : Nat) (p v : Value) : List Value := [qi k, qi id, qi 0, qi 0, qi 0, .bool false, qi 0, qi 0, qi 0, qf, p, v]
def rlEv (k id : Nat) (w : Bool) (a v : Value) : List Value := [qi k, qi 0, qi id, .bool w, qi 0, a, v, q0]
/-- sessions: what came in, what goes out -/
def rlSess (f i o : Value) : AObj := .cells [.bool true, qi 0, f, .bool false, i, o, q0, qi 0, .bool false, qi 0, q0, .bool false, q0, q0, q0, qi 0, .bool false, qi 0, q0, .bool false, q0, q0, q0, qi 0, .bool false, qi 0, q0, .bool false, q0, q0, q0, qi 0] false 8
/-- where a round is: what the session holds, from object b on; what waits -/
structure RlP where
  f : Value
  i : Value
  o : Value
  l : List (Option AObj)
  w : Value
  m : List (Option AObj)
def rlE0 : AObj := .cells [] true 1
def rlAns (id : Nat) (v : Value) : List Value := rlMsg 6 id q0 v
/-- p: which step is next; b: the first object of the session's own -/
def rlPh (p i b : Nat) (c : Nat → Nat) : RlP := match p with
  | 0 => match i with
    | 0 => ⟨q0, q0, q0, [], q0, []⟩
    | j + 1 => ⟨qs b 0 0, q0, qt (b + 1) 12 0 0, [some rlE0, some (.cells (rlAns (2 * j + 1) (qs (b + 2) 2 2)) false 12), some (rlImg (c j) (c j))], q0, []⟩
  | 1 => ⟨qs b 0 0, qs (b + 1) 1 1, q0, [some rlE0, some (.cells (rlMsg 2 (2 * i) (qs (b + 2) 1 1) (qs (b + 3) 1 1)) false 12), some (rlP1 false), some (rlVal false (c i))], q0, []⟩
  | 2 => ⟨qs b 0 0, qt (b + 1) 12 0 0, q0, [some rlE0, some (.cells (rlMsg 2 (2 * i) (qs (b + 2) 1 1) (qs (b + 3) 1 1)) false 12), some (rlP1 false), some (rlVal false (c i))], qs (b + 4) 1 1, [some (.cells [qi 0, qi (2 * i), qs (b + 5) 1 1, qs (b + 6) 1 1] false 4), some (.cells [qi 0] false 1), some (rlVal false (c i))]⟩
  | 3 => ⟨qs b 0 0, q0, qs (b + 1) 1 1, [some rlE0, some (.cells (rlAns (2 * i) q0) false 12)], q0, []⟩
  | 4 => ⟨qs b 0 0, q0, qs (b + 1) 1 1, [some rlE0, some (.cells (rlAns (2 * i) q0) false 12)], q0, []⟩
  | 5 => ⟨qs b 0 0, qs (b + 1) 1 1, qs (b + 3) 1 1, [some rlE0, some (.cells (rlMsg 1 (2 * i + 1) (qs (b + 2) 2 2) q0) false 12), some (rlP2 false), some (.cells (rlAns (2 * i) q0) false 12)], q0, []⟩
  | 6 => ⟨qs b 0 0, qt (b + 1) 12 0 0, qs (b + 3) 2 2, [some rlE0, some (.cells (rlMsg 1 (2 * i + 1) (qs (b + 2) 2 2) q0) false 12), some (rlP2 false), some (.cells (rlAns (2 * i) q0 ++ rlAns (2 * i + 1) (qs (b + 4) 2 2)) false 12), some (rlImg (c i) (c i))], q0, []⟩
  | _ => ⟨qs b 0 0, q0, qt (b + 1) 12 1 1, [some rlE0, some (.cells (rlAns (2 * i) q0 ++ rlAns (2 * i + 1) (qs (b + 2) 2 2)) false 12), some (rlImg (c i) (c i))], q0, []⟩
/-- how many were sent, events, requests, ahead of step p of round i -/
def rlGn (p i : Nat) : Nat := match p with
  | 7 => 2 * i + 1
  | _ => 2 * i
def rlHn (p i : Nat) : Nat := match p with
  | 0 => 4 * i
  | 1 | 2 | 3 | 4 => 4 * i + 1
  | 5 | 6 => 4 * i + 2
  | _ => 4 * i + 3
def rlAn (p i : Nat) : Nat := match p with
  | 0 => 2 * i
  | 1 | 2 | 3 | 4 => 2 * i + 1
  | _ => 2 * i + 2
def hfN : Nat → Nat
  | 0 => 0
  | 1 => 0
  | n + 2 => hfN n + 1
def odN : Nat → Bool
  | 0 => false
  | 1 => true
  | n + 2 => odN n
/-- answers that were sent: the even ones of writes, the odd ones of reads (b: the first of their values) -/
def rlGot (n b : Nat) : List Value := repF (fun k => rlAns k (cond (odN k) (qs (b + hfN k) 2 2) q0)) n
def rlGotO (n : Nat) (c : Nat → Nat) : List (Option AObj) := repF (fun k => cond (odN k) [some (rlImg (c (hfN k)) (c (hfN k)))] []) n
/-- events: a write is asked for, a read is, a write is answered, a read is; v: the first of the values that were read; o: the first of the events' own objects -/
def rlHist (n v o : Nat) : List Value := repF (fun k => match k % 4 with
  | 0 => rlEv 1 (2 * (k / 4)) true (qs (o + 3 * (k / 4)) 1 1) (qs (o + 3 * (k / 4) + 1) 1 1)
  | 1 => rlEv 1 (2 * (k / 4) + 1) false (qs (o + 3 * (k / 4) + 2) 2 2) q0
  | 2 => rlEv 2 (2 * (k / 4)) false q0 q0
  | _ => rlEv 2 (2 * (k / 4) + 1) false q0 (qs (v + k / 4) 2 2)) n
def rlHistO (n : Nat) (u : Nat → Nat) : List (Option AObj) := repF (fun k => match k % 4 with
  | 0 => [some (.cells [qi 0] false 1), some (rlVal true (u (k / 4)))]
  | 1 => [some (.cells [qi 0, qi 1] false 1)]
  | _ => []) n
/-- requests: their paths from object p on, their values among the events' (from o on) -/
def rlAsk (n o p : Nat) : List MapEntry := repF (fun k => [{ key := .agg ⟨[qi 0, qi k]⟩, val := .agg ⟨cond (odN k) (rlMsg 1 k (qs (p + k) 2 2) q0) (rlMsg 2 k (qs (p + k) 1 1) (qs (o + 3 * hfN k + 1) 1 1))⟩, born := k }]) n
def rlAskO (n : Nat) : List (Option AObj) := repF (fun k => [some (cond (odN k) (rlP2 true) (rlP1 true))]) n
/-- the machine's: N scans, the image, memory -/
def rlMk (b : Nat) (N : Nat) (img : AObj) (ov : Bool) (mem : Value) (memO : List (Option AObj)) (s : Nat) (P : RlP) (gn hn an : Nat) (cg u : Nat → Nat) : List (Option AObj) :=
  let inp := s + 1 + P.l.length + P.m.length
  let g := inp + 1
  let go := rlGotO gn cg
  let fr := g + 1 + go.length
  let h := fr + 1
  let ho := rlHistO hn u
  let a := h + 1 + ho.length
  some (.cells [qs (b + 1) 2 2, qs (b + 2) 1 1, qs (b + 3) 2 2, qs (b + 4) 3 3, qi 100, qs (b + 5) 2 2, qi 0, q0, mem, qi 0, qi 0, .bool ov, qi 0, qi 0, qi N, qi 0, qs s 4 4, P.w, qs inp 2 2, cond (Nat.beq gn 0) q0 (qs g gn gn), cond (Nat.beq gn 0) q0 (qs fr gn gn), cond (Nat.beq hn 0) q0 (qs (cond (Nat.beq gn 0) g h) hn hn), cond (Nat.beq an 0) (.map none) (.map (some (cond (Nat.beq gn 0) (g + 1 + ho.length) a))), .bool false] true 0)
  :: some rlVars :: some rlBody :: some rlVars :: some rlCode :: some img :: (memO ++ some (rlSess P.f P.i P.o) :: (P.l ++ (P.m ++ some (rlImg 0 0) :: (
    (cond (Nat.beq gn 0) [] (some (.cells (rlGot gn (g + 1)) false 12) :: (go ++ [some (.cells (repF (fun _ => [qi 0]) gn) false 1)])))
    ++ (cond (Nat.beq hn 0) [] (some (.cells (rlHist hn (g + 1) (cond (Nat.beq gn 0) (g + 1) (h + 1))) false 8) :: ho))
    ++ (cond (Nat.beq an 0) [] (some (.map (rlAsk an (cond (Nat.beq gn 0) (g + 1) (h + 1)) (cond (Nat.beq gn 0) (g + 2 + ho.length) (a + 1))) an) :: rlAskO an))))))
/-- ahead of step p of round i: c: what was written, as it is kept; cg: as it was told; u: as it was given -/
def rlSt (b p i : Nat) (c cg u : Nat → Nat) : List (Option AObj) := match i, p with
  | 0, 0 | 0, 1 | 0, 2 => rlMk b 0 (rlImg 0 0) true q0 [] (b + 6) (rlPh p 0 (b + 7) c) (rlGn p 0) (rlHn p 0) (rlAn p 0) cg u
  | j + 1, 0 | j + 1, 1 | j + 1, 2 => rlMk b (2 * j + 1) (rlImg (c j) (c j)) false (qs (b + 6) 2 2) [some (rlImg (c j) (c j))] (b + 7) (rlPh p (j + 1) (b + 8) c) (rlGn p (j + 1)) (rlHn p (j + 1)) (rlAn p (j + 1)) cg u
  | 0, 3 => rlMk b 0 (rlImg (c 0) 0) false (qs (b + 6) 2 2) [some (rlImg (c 0) 0)] (b + 7) (rlPh 3 0 (b + 8) c) (rlGn 3 0) (rlHn 3 0) (rlAn 3 0) cg u
  | j + 1, 3 => rlMk b (2 * j + 2) (rlImg (c (j + 1)) (c j)) false (qs (b + 6) 2 2) [some (rlImg (c (j + 1)) (c j))] (b + 7) (rlPh 3 (j + 1) (b + 8) c) (rlGn 3 (j + 1)) (rlHn 3 (j + 1)) (rlAn 3 (j + 1)) cg u
  | i, p => rlMk b (2 * i + 1) (rlImg (c i) (c i)) false (qs (b + 6) 2 2) [some (rlImg (c i) (c i))] (b + 7) (rlPh p i (b + 8) c) (rlGn p i) (rlHn p i) (rlAn p i) cg u
end
end Go.Proofs.YtpogcoolgnjejaaGreatDoor.Ev
