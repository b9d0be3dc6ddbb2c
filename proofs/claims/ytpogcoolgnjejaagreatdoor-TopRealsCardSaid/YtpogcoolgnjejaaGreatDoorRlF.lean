/-
  TopReals's own code: frames, bytes of messages, what is asked of its pieces. (Printed by tools/rl.py.)
-/
import Derived.Test.YtpogcoolgnjejaaGreatDoorRlK
set_option linter.unusedVariables false
namespace Go.Proofs.YtpogcoolgnjejaaGreatDoor.Ev
open Go
noncomputable section
def rlSl (L c : Nat) : Value := .slice (some ⟨0, 0, some 0⟩) L c
def rlU (y : Nat → Int) (j : Nat) : Nat := (y j).toNat
def rlFr (L c i : Nat) : AFr := mkF 151 [(0, rlSl L c), (6, .pointer (some ⟨1, 0, none⟩)), (7, qi i)]
def rlFf (L c i f : Nat) : AFr := mkF 151 [(0, rlSl L c), (6, .pointer (some ⟨1, 0, none⟩)), (7, qi i), (8, qR f)]
def rlFt (L c : Nat) (i : Int) : AFr := mkF 151 [(0, rlSl L c), (6, .pointer (some ⟨1, 0, none⟩)), (7, qI i)]
def rlFx : AFr := mkF 151 [(6, .pointer (some ⟨1, 0, none⟩))]
def rlMe (p i L : Nat) (g cg : Nat → Nat) (y : Nat → Int) : ASt := mkS (some (rlRow L y) :: rlSt 1 p i g cg (rlU y))
def rlLo : AX → List Nat
  | .normal => [0, 6, 7]
  | _ => [6]
def rlLx : AX → List Nat
  | _ => [0, 6, 7]
def rlLf : AX → List Nat
  | _ => [0, 6, 7, 8]
/-! ### the code -/
def rlHead : Code := seqA rlBody0
def rlMid : Code := blkC (seqA (seqB rlBody0))
def rlTail : Code := seqB (seqB rlBody0)
def seqN : Nat → Code → Code
  | 0, c => c
  | n + 1, c => seqN n (seqB c)
def rlAt (k : Nat) : Code := seqA (seqN k rlMid)
def rlLast : Code := seqN 8 rlMid
/-! ### bytes -/
def e8 (f : Nat → Int) : List Int := [f 7, f 6, f 5, f 4, f 3, f 2, f 1, f 0]
def msW (id : Nat) (f : Nat → Int) : List Int := 2 :: 0 :: .ofNat id :: 0 :: 0 :: 0 :: 0 :: 0 :: 0 :: 0 :: 0 :: 0 :: 0 :: 0 :: 0 :: 0 :: 0 :: 0 :: 1 :: 1 :: 114 :: 1 :: 5 :: e8 f
def msR (id : Nat) : List Int := [1, 0, .ofNat id, 0, 0, 0, 0, 0, 0, 0, 0, 0, 0, 0, 0, 0, 0, 0, 2, 1, 114, 1, 115, 0]
def anW (id : Nat) : List Int := [6, 0, .ofNat id, 0, 0, 0, 0, 0, 0, 0, 0, 0, 0, 0, 0, 0, 0, 0, 0, 0]
def anR (id : Nat) (f : Nat → Int) : List Int := 6 :: 0 :: .ofNat id :: 0 :: 0 :: 0 :: 0 :: 0 :: 0 :: 0 :: 0 :: 0 :: 0 :: 0 :: 0 :: 0 :: 0 :: 0 :: 0 :: 2 :: 5 :: (e8 f ++ 5 :: e8 f)
def frL (n : Int) (l : List Int) : List Int := 0 :: n :: l
def sumI (F : List Nat → Nat) (l : List Int) : Int := .ofNat (F (l.map Int.toNat))
def cHi (S : Int) : List Int := [hiB (IntKind.wrap .u64 S) 3, hiB (IntKind.wrap .u64 S) 2, hiB (IntKind.wrap .u64 S) 1, hiB (IntKind.wrap .u64 S) 0]
def cFd (S : Int) : List Int := [fdB S 3, fdB S 2, fdB S 1, fdB S 0]
def cmpN : List Int → List Int → Prop → Prop
  | a :: l, b :: m, K => need (!(a != b)) (cmpN l m K)
  | _, _, K => K
def strI (l : List Int) : ByteArray := ⟨(l.map fun x => UInt8.ofNat x.toNat).toArray⟩
def eqS (l m : List Int) (K : Prop) : Prop := need (!!((strI l).data.toList == (strI m).data.toList)) K
def sameI (a b : Int) (K : Prop) : Prop := need (!!(a == b)) K
def updN (g : Nat → Nat) (i x : Nat) : Nat → Nat := fun j => cond (Nat.beq j i) x (g j)
def bI (a : Nat) : Int := .ofNat (bitsN a)
/-- what is read of eight bytes, by mesg, by ref7 -/
def rdO (f : Nat → Int) : Nat := (IntKind.wrap .u64 (orD f 8)).toNat
def rdA (f : Nat → Int) : Nat := (adD f 8).toNat
def ndI (L i : Nat) (K : Prop) : Prop := need (Nat.blt i L) (need (Nat.ble 0 (0 + i) && Nat.blt (0 + i) L) K)
/-! ### pieces -/
def rlHdA (i : Nat) (F : List Nat → Nat) (L c : Nat) (y : Nat → Int) (g cg : Nat → Nat) (Nx : Kt) : Prop := pieceO Tryz.prog (toldX F) 1 rlLo [30] [true] rlHead (rlFr L c i) (rlMe 0 i L g cg y) Nx
def rlHdB (i : Nat) (F : List Nat → Nat) (L c : Nat) (y : Nat → Int) (g cg : Nat → Nat) (Nx : Kt) : Prop := need (decide (Int.ofNat i < Int.ofNat L)) (Nx .normal (rlFr L c i) (rlMe 0 i L g cg y))
def RlHd (i : Nat) : Prop := ∀ (F : List Nat → Nat) (L c : Nat) (y : Nat → Int) (g cg : Nat → Nat) (Nx : Kt), rlHdA i F L c y g cg Nx = rlHdB i F L c y g cg Nx
def rlExA (i : Nat) (F : List Nat → Nat) (L c : Nat) (y : Nat → Int) (g cg : Nat → Nat) (Nx : Kt) : Prop := pieceO Tryz.prog (toldX F) 1 rlLo [30] [false] rlHead (rlFr L c i) (rlMe 0 i L g cg y) Nx
def rlExB (i : Nat) (F : List Nat → Nat) (L c : Nat) (y : Nat → Int) (g cg : Nat → Nat) (Nx : Kt) : Prop := need (!(decide (Int.ofNat i < Int.ofNat L))) (Nx (.exit 0) rlFx (rlMe 0 i L g cg y))
def RlEx (i : Nat) : Prop := ∀ (F : List Nat → Nat) (L c : Nat) (y : Nat → Int) (g cg : Nat → Nat) (Nx : Kt), rlExA i F L c y g cg Nx = rlExB i F L c y g cg Nx
def rlFlA (i : Nat) (F : List Nat → Nat) (L c : Nat) (y : Nat → Int) (g cg : Nat → Nat) (Nx : Kt) : Prop := pieceO Tryz.prog (toldX F) 1 rlLf [] [] (rlAt 0) (rlFr L c i) (rlMe 0 i L g cg y) Nx
def rlFlB (i : Nat) (F : List Nat → Nat) (L c : Nat) (y : Nat → Int) (g cg : Nat → Nat) (Nx : Kt) : Prop := ndI L i (Nx .normal (rlFf L c i (rlU y i)) (rlMe 0 i L g cg y))
def RlFl (i : Nat) : Prop := ∀ (F : List Nat → Nat) (L c : Nat) (y : Nat → Int) (g cg : Nat → Nat) (Nx : Kt), rlFlA i F L c y g cg Nx = rlFlB i F L c y g cg Nx
def rlWrA (i : Nat) (F : List Nat → Nat) (L c : Nat) (y : Nat → Int) (g cg : Nat → Nat) (Nx : Kt) : Prop := pieceO Tryz.prog (toldX F) 1 rlLf [] [] (rlAt 1) (rlFf L c i (rlU y i)) (rlMe 0 i L g cg y) Nx
def rlWrB (i : Nat) (F : List Nat → Nat) (L c : Nat) (y : Nat → Int) (g cg : Nat → Nat) (Nx : Kt) : Prop := sameI (bI (rlU y i)) (bI (rlU y i)) (bytN (e8 (hiB (bI (rlU y i)))) (bytN (e8 (hiB (bI (rlU y i)))) (cmpN (cFd (sumI F (frL 31 (msW (2 * i) (hiB (bI (rlU y i))))))) (cHi (sumI F (frL 31 (msW (2 * i) (hiB (bI (rlU y i))))))) (cmpN (e8 (fdB (bI (rdO (hiB (bI (rlU y i))))))) (e8 (hiB (bI (rlU y i)))) (Nx .normal (rlFf L c i (rlU y i)) (rlMe 1 i L (updN g i (rdO (hiB (bI (rlU y i))))) cg y))))))
def RlWr (i : Nat) : Prop := ∀ (F : List Nat → Nat) (L c : Nat) (y : Nat → Int) (g cg : Nat → Nat) (Nx : Kt), rlWrA i F L c y g cg Nx = rlWrB i F L c y g cg Nx
def rlSvA (i : Nat) (F : List Nat → Nat) (L c : Nat) (y : Nat → Int) (g cg : Nat → Nat) (Nx : Kt) : Prop := pieceO Tryz.prog (toldX F) 1 rlLf [] [] (rlAt 2) (rlFf L c i (rlU y i)) (rlMe 1 i L g cg y) Nx
def rlSvB (i : Nat) (F : List Nat → Nat) (L c : Nat) (y : Nat → Int) (g cg : Nat → Nat) (Nx : Kt) : Prop := Nx .normal (rlFf L c i (rlU y i)) (rlMe 2 i L g cg y)
def RlSv (i : Nat) : Prop := ∀ (F : List Nat → Nat) (L c : Nat) (y : Nat → Int) (g cg : Nat → Nat) (Nx : Kt), rlSvA i F L c y g cg Nx = rlSvB i F L c y g cg Nx
def rlScA (i : Nat) (F : List Nat → Nat) (L c : Nat) (y : Nat → Int) (g cg : Nat → Nat) (Nx : Kt) : Prop := pieceO Tryz.prog (toldX F) 1 rlLf [] [] (rlAt 3) (rlFf L c i (rlU y i)) (rlMe 2 i L g cg y) Nx
def rlScB (i : Nat) (F : List Nat → Nat) (L c : Nat) (y : Nat → Int) (g cg : Nat → Nat) (Nx : Kt) : Prop := Nx .normal (rlFf L c i (rlU y i)) (rlMe 4 i L g cg y)
def RlSc (i : Nat) : Prop := ∀ (F : List Nat → Nat) (L c : Nat) (y : Nat → Int) (g cg : Nat → Nat) (Nx : Kt), rlScA i F L c y g cg Nx = rlScB i F L c y g cg Nx
def rlRdA (i : Nat) (F : List Nat → Nat) (L c : Nat) (y : Nat → Int) (g cg : Nat → Nat) (Nx : Kt) : Prop := pieceO Tryz.prog (toldX F) 1 rlLf [] [] (rlAt 4) (rlFf L c i (rlU y i)) (rlMe 4 i L g cg y) Nx
def rlRdB (i : Nat) (F : List Nat → Nat) (L c : Nat) (y : Nat → Int) (g cg : Nat → Nat) (Nx : Kt) : Prop := cmpN (cFd (sumI F (frL 24 (msR (2 * i + 1))))) (cHi (sumI F (frL 24 (msR (2 * i + 1))))) (Nx .normal (rlFf L c i (rlU y i)) (rlMe 5 i L g cg y))
def RlRd (i : Nat) : Prop := ∀ (F : List Nat → Nat) (L c : Nat) (y : Nat → Int) (g cg : Nat → Nat) (Nx : Kt), rlRdA i F L c y g cg Nx = rlRdB i F L c y g cg Nx
def rlSwA (i : Nat) (F : List Nat → Nat) (L c : Nat) (y : Nat → Int) (g cg : Nat → Nat) (Nx : Kt) : Prop := pieceO Tryz.prog (toldX F) 1 rlLf [] [] (rlAt 5) (rlFf L c i (rlU y i)) (rlMe 5 i L g cg y) Nx
def rlSwB (i : Nat) (F : List Nat → Nat) (L c : Nat) (y : Nat → Int) (g cg : Nat → Nat) (Nx : Kt) : Prop := Nx .normal (rlFf L c i (rlU y i)) (rlMe 6 i L g cg y)
def RlSw (i : Nat) : Prop := ∀ (F : List Nat → Nat) (L c : Nat) (y : Nat → Int) (g cg : Nat → Nat) (Nx : Kt), rlSwA i F L c y g cg Nx = rlSwB i F L c y g cg Nx
def rlSeA (i : Nat) (F : List Nat → Nat) (L c : Nat) (y : Nat → Int) (g cg : Nat → Nat) (Nx : Kt) : Prop := pieceO Tryz.prog (toldX F) 1 rlLf [] [] (rlAt 6) (rlFf L c i (rlU y i)) (rlMe 6 i L g cg y) Nx
def rlSeB (i : Nat) (F : List Nat → Nat) (L c : Nat) (y : Nat → Int) (g cg : Nat → Nat) (Nx : Kt) : Prop := eqS (frL 20 (anW (2 * i)) ++ cHi (sumI F (frL 20 (anW (2 * i))))) (frL 20 (anW (2 * i)) ++ cFd (sumI F (frL 20 (anW (2 * i))))) (Nx .normal (rlFf L c i (rlU y i)) (rlMe 7 i L g cg y))
def RlSe (i : Nat) : Prop := ∀ (F : List Nat → Nat) (L c : Nat) (y : Nat → Int) (g cg : Nat → Nat) (Nx : Kt), rlSeA i F L c y g cg Nx = rlSeB i F L c y g cg Nx
def rlSnA (i : Nat) (F : List Nat → Nat) (L c : Nat) (y : Nat → Int) (g cg : Nat → Nat) (Nx : Kt) : Prop := pieceO Tryz.prog (toldX F) 1 rlLf [] [] (rlAt 7) (rlFf L c i (rlU y i)) (rlMe 7 i L g cg y) Nx
def rlSnB (i : Nat) (F : List Nat → Nat) (L c : Nat) (y : Nat → Int) (g cg : Nat → Nat) (Nx : Kt) : Prop := bytN (e8 (fdB (bI (g i)))) (bytN (e8 (fdB (bI (g i)))) (bytN (e8 (fdB (bI (g i)))) (bytN (e8 (fdB (bI (g i)))) (eqS ((frL 38 (anR (2 * i + 1) (fdB (bI (g i))))) ++ cHi (sumI F (frL 38 (anR (2 * i + 1) (fdB (bI (g i))))))) ((frL 38 (anR (2 * i + 1) (fdB (bI (g i))))) ++ cFd (sumI F (frL 38 (anR (2 * i + 1) (fdB (bI (g i))))))) (eqS (e8 (hiB (bI (rdA (fdB (bI (g i))))))) (e8 (fdB (bI (g i)))) (eqS (e8 (hiB (bI (rdA (fdB (bI (g i))))))) (e8 (fdB (bI (g i)))) (eqS (e8 (hiB (bI (rdA (fdB (bI (g i))))))) (e8 (fdB (bI (g i)))) (eqS (e8 (hiB (bI (rdA (fdB (bI (g i))))))) (e8 (fdB (bI (g i)))) (sameI (bI (rdA (fdB (bI (g i))))) (bI (rdA (fdB (bI (g i))))) (sameI (bI (rdA (fdB (bI (g i))))) (bI (rdA (fdB (bI (g i))))) (eqS (anR (2 * i + 1) (hiB (bI (rdA (fdB (bI (g i))))))) (anR (2 * i + 1) (fdB (bI (g i)))) (Nx .normal (rlFf L c i (rlU y i)) (rlMe 0 (i + 1) L g (updN cg i (rdA (fdB (bI (g i))))) y)))))))))))))
def RlSn (i : Nat) : Prop := ∀ (F : List Nat → Nat) (L c : Nat) (y : Nat → Int) (g cg : Nat → Nat) (Nx : Kt), rlSnA i F L c y g cg Nx = rlSnB i F L c y g cg Nx
def rlCkA (i : Nat) (F : List Nat → Nat) (L c : Nat) (y : Nat → Int) (g cg : Nat → Nat) (Nx : Kt) : Prop := pieceO Tryz.prog (toldX F) 1 rlLx [145] [false] rlLast (rlFf L c i (rlU y i)) (rlMe 0 (i + 1) L g cg y) Nx
def rlCkB (i : Nat) (F : List Nat → Nat) (L c : Nat) (y : Nat → Int) (g cg : Nat → Nat) (Nx : Kt) : Prop := need (!(!(bI (cg i) == bI (rlU y i)) || !(bI (cg i) == bI (rlU y i)))) (Nx .normal (rlFr L c i) (rlMe 0 (i + 1) L g cg y))
def RlCk (i : Nat) : Prop := ∀ (F : List Nat → Nat) (L c : Nat) (y : Nat → Int) (g cg : Nat → Nat) (Nx : Kt), rlCkA i F L c y g cg Nx = rlCkB i F L c y g cg Nx
def rlTlA (i : Nat) (F : List Nat → Nat) (L c : Nat) (y : Nat → Int) (g cg : Nat → Nat) (Nx : Kt) : Prop := pieceO Tryz.prog (toldX F) 1 rlLx [] [] rlTail (rlFr L c i) (rlMe 0 (i + 1) L g cg y) Nx
def rlTlB (i : Nat) (F : List Nat → Nat) (L c : Nat) (y : Nat → Int) (g cg : Nat → Nat) (Nx : Kt) : Prop := Nx .normal (rlFr L c (i + 1)) (rlMe 0 (i + 1) L g cg y)
def RlTl (i : Nat) : Prop := ∀ (F : List Nat → Nat) (L c : Nat) (y : Nat → Int) (g cg : Nat → Nat) (Nx : Kt), rlTlA i F L c y g cg Nx = rlTlB i F L c y g cg Nx
end
end Go.Proofs.YtpogcoolgnjejaaGreatDoor.Ev
