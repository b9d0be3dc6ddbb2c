/-
  TopBlocks's own code: frames, states behind a boundary, what is asked of its pieces.
-/
import Derived.Test.YthajddbhjdkmnaaGreatDoorTkK
set_option linter.unusedVariables false
namespace Go.Proofs.YthajddbhjdkmnaaGreatDoor.Ev
open Go
noncomputable section
def tkSl (L c : Nat) : Value := .slice (some ⟨0, 0, some 0⟩) L c
/-! ### what the law's own numbers are -/
def inB (y : Nat → Nat → Int) (i : Nat) : Bool := decide ((y (0 + i) 0).tmod 3 > 0)
def dtN (y : Nat → Nat → Int) (i : Nat) : Int := IntKind.wrap .i64 ((y (0 + i) 1).tmod 30)
def nowN (y : Nat → Nat → Int) (i : Nat) (now : Int) : Int := IntKind.wrap .i64 (now + dtN y i)
/-! ### the code -/
def tkHead : Code := seqA tkBody
def tkTail : Code := seqB (seqB tkBody)
def tkM1 : Code := seqB tkMid
def seqN : Nat → Code → Code
  | 0, c => c
  | n + 1, c => seqN n (seqB c)
def tkA : List Code := [seqA tkM1, seqA (seqN 1 tkM1), seqA (seqN 2 tkM1), seqA (seqN 3 tkM1), seqA (seqN 4 tkM1), seqA (seqN 5 tkM1)]
def tkM2 : Code := seqN 6 tkM1
/-! ### frames, what is kept -/
def tkFi (s : Value) (lt now since edges : Int) (was inn : Bool) (i : Nat) : AFr := mkF 169 [(0, s), (6, .pointer (some ⟨1, 0, none⟩)), (9, qI lt), (10, qI now), (11, qI since), (12, qI edges), (13, .bool was), (14, .int .i64 (.ofNat i)), (15, .bool inn)]
def tkLo : AX → List Nat
  | .normal => [0, 6, 9, 10, 11, 12, 13, 14]
  | _ => []
def tkLx : AX → List Nat
  | _ => [0, 6, 9, 10, 11, 12, 13, 14]
def tkLi : AX → List Nat
  | _ => [0, 6, 9, 10, 11, 12, 13, 14, 15]
/-! ### memory -/
/-- at the head -/
def tkZ (fst : Bool) (lt now N : Int) (x : TkV) (g : AObj) : ASt := match fst with
  | true => mkS (tkH0 lt now g)
  | false => mkS (tkH lt now N x g)
def tk0 : TkV := ⟨0, 0, 0, 0, 0, 0, 0, 0, 0⟩
def tkX (fst : Bool) (x : TkV) (a : Int) : TkV := match fst with
  | true => { tk0 with a := a }
  | false => { x with a := a }
def tkNN : Bool → Int → Int
  | true, _ => 0
  | false, N => N
/-- behind a boundary -/
def tkB (lt now N : Int) (x : TkV) (g : AObj) : List (Option AObj) := some g :: some (.cells [qs 2 4 4, qs 3 3 3, qs 6 4 4, qs 7 9 9, qi 100, qs 8 9 9, qi 0, q0, qs 9 9 9, qi 0, qI now, .bool false, qi 0, qi 0, qI N, qI now, qs 10 4 4, q0, qs 11 9 9] true 0) :: tkStat lt [some (tkImg x), some (tkImg x), some (tkSess false), some (tkInp x.a)]
/-! ### pieces -/
def tkHdA (fst : Bool) (L c : Nat) (y : Nat → Nat → Int) (lt now since edges N : Int) (was : Bool) (i : Nat) (x : TkV) (Nx : Kt) : Prop := pieceO Tryz.prog toldK 1 tkLo [55] [true] tkHead (tkFr (tkSl L c) lt now since edges was i) (tkZ fst lt now N x (tkRow L y)) Nx
def tkHdB (fst : Bool) (L c : Nat) (y : Nat → Nat → Int) (lt now since edges N : Int) (was : Bool) (i : Nat) (x : TkV) (Nx : Kt) : Prop := need (decide (Int.ofNat i < Int.ofNat L)) (Nx .normal (tkFr (tkSl L c) lt now since edges was i) (tkZ fst lt now N x (tkRow L y)))
def tkExA (fst : Bool) (L c : Nat) (y : Nat → Nat → Int) (lt now since edges N : Int) (was : Bool) (i : Nat) (x : TkV) (Nx : Kt) : Prop := pieceO Tryz.prog toldK 1 tkLo [55] [false] tkHead (tkFr (tkSl L c) lt now since edges was i) (tkZ fst lt now N x (tkRow L y)) Nx
def tkExB (fst : Bool) (L c : Nat) (y : Nat → Nat → Int) (lt now since edges N : Int) (was : Bool) (i : Nat) (x : TkV) (Nx : Kt) : Prop := need (!(decide (Int.ofNat i < Int.ofNat L))) (Nx (.exit 0) (mkF 169 []) (mkS [some (tkRow L y)]))
def tkInA (fst : Bool) (L c : Nat) (y : Nat → Nat → Int) (lt now since edges N : Int) (was : Bool) (i : Nat) (x : TkV) (Nx : Kt) : Prop := pieceO Tryz.prog toldK 1 tkLi [] [] (seqA tkMid) (tkFr (tkSl L c) lt now since edges was i) (tkZ fst lt now N x (tkRow L y)) Nx
def ndI (L i : Nat) (K : Prop) : Prop := need (Nat.blt i L) (need (Nat.ble 0 (0 + i) && Nat.blt (0 + i) L) K)
def tkInB (fst : Bool) (L c : Nat) (y : Nat → Nat → Int) (lt now since edges N : Int) (was : Bool) (i : Nat) (x : TkV) (Nx : Kt) : Prop := ndI L i (Nx .normal (tkFi (tkSl L c) lt now since edges was (inB y i) i) (tkZ fst lt now N x (tkRow L y)))
/-- what comes in, how time goes, the boundary -/
def ndT (now n : Int) (K : Prop) : Prop := br (decide (n < 0)) False (br (decide (n > 1125899906842624)) False (need (!(decide (now > IntKind.wrap .i64 (1125899906842624 - n)))) K))
def tkAA (fst inn : Bool) (L c : Nat) (y : Nat → Nat → Int) (lt now since edges N : Int) (was : Bool) (i : Nat) (x : TkV) (Nx : Kt) : Prop := pieceL Tryz.prog toldK 1 tkLi [66] [inn] tkA (tkFi (tkSl L c) lt now since edges was inn i) (tkZ fst lt now N x (tkRow L y)) Nx
def tkAB (fst inn : Bool) (L c : Nat) (y : Nat → Nat → Int) (lt now since edges N : Int) (was : Bool) (i : Nat) (x : TkV) (Nx : Kt) : Prop := ndI L i (ndI L i (ndT now (dtN y i) (Nx .normal (tkFi (tkSl L c) lt (nowN y i now) since edges was inn i) (mkS (tkB lt (nowN y i now) (tkNN fst N) (tkX fst x (one inn)) (tkRow L y))))))
/-- a scan, what the law looks at -/
def ptM (lt : Int) : Int := if (0 : Int) > lt then (0 : Int) else lt
def cvN (cv : Int) : Int := if (32767 : Int) < IntKind.wrap .i64 (cv + 1) then (32767 : Int) else IntKind.wrap .i64 (cv + 1)
def tkNx (inn was : Bool) (lt now at' cv : Int) : TkV := match inn with
  | true => ⟨1, one (goesN now (cond was at' now) (ptM lt) == ptM lt), one (goesN now (cond was at' now) (ptM lt) == ptM lt), goesN now (cond was at' now) (ptM lt), 1, cond was at' now, one (decide (cond was cv (cvN cv) ≥ 3)), cond was cv (cvN cv), 1⟩
  | false => ⟨0, 0, 0, 0, 0, 0, one (decide (cv ≥ 3)), cv, 0⟩
/-- what is asked of a round -/
def tkWant (lt since now : Int) (inn : Bool) : Bool := cond inn (decide (IntKind.wrap .i64 (now - since) ≥ lt)) false
def tkNeed (lt since edges now : Int) (inn : Bool) (x : TkV) (K : Prop) : Prop := br (!((x.q == 1) == tkWant lt since now inn)) False (br (x.cv != edges) False (need (!!((x.nq == 1) == decide (edges ≥ 3))) K))
def tkSi (inn was : Bool) (now since : Int) : Int := cond (inn && !was) now since
def tkEd (inn was : Bool) (edges : Int) : Int := cond (inn && !was) (IntKind.wrap .i64 (edges + 1)) edges
def tkBA (inn was : Bool) (L c : Nat) (y : Nat → Nat → Int) (lt now since edges N : Int) (i : Nat) (q tq et at' nq cv : Int) (Nx : Kt) : Prop := pieceO Tryz.prog toldK 1 tkLx [118, 168] [inn && !was, false] tkM2 (tkFi (tkSl L c) lt now since edges was inn i) (mkS (tkB lt now N ⟨one inn, q, tq, et, one was, at', nq, cv, one was⟩ (tkRow L y))) Nx
def tkBB (inn was : Bool) (L c : Nat) (y : Nat → Nat → Int) (lt now since edges N : Int) (i : Nat) (q tq et at' nq cv : Int) (Nx : Kt) : Prop := tkNeed lt (tkSi inn was now since) (tkEd inn was edges) now inn (tkNx inn was lt now at' cv) (Nx .normal (tkFr (tkSl L c) lt now (tkSi inn was now since) (tkEd inn was edges) inn i) (mkS (tkH lt now (IntKind.wrap .i64 (N + 1)) (tkNx inn was lt now at' cv) (tkRow L y))))
def tkTlA (L c : Nat) (y : Nat → Nat → Int) (lt now since edges N : Int) (was : Bool) (i : Nat) (x : TkV) (Nx : Kt) : Prop := pieceO Tryz.prog toldK 1 tkLx [] [] tkTail (tkFr (tkSl L c) lt now since edges was i) (tkZ false lt now N x (tkRow L y)) Nx
def tkFt (s : Value) (lt now since edges : Int) (was : Bool) (i : Int) : AFr := mkF 169 [(0, s), (6, .pointer (some ⟨1, 0, none⟩)), (9, qI lt), (10, qI now), (11, qI since), (12, qI edges), (13, .bool was), (14, .int .i64 i)]
def tkTlB (L c : Nat) (y : Nat → Nat → Int) (lt now since edges N : Int) (was : Bool) (i : Nat) (x : TkV) (Nx : Kt) : Prop := Nx .normal (tkFt (tkSl L c) lt now since edges was (IntKind.wrap .i64 (Int.ofNat i + 1))) (tkZ false lt now N x (tkRow L y))
end
end Go.Proofs.YthajddbhjdkmnaaGreatDoor.Ev
