/-
  What has to hold: printed by the evaluator.
-/
import Derived.Test.YtncndnlbiijdoaaInZb
set_option linter.unusedVariables false
/-! What has to hold: printed by the evaluator. -/
set_option linter.unusedVariables false
set_option maxRecDepth 1000000
namespace Go.Proofs.Ytncndnlbiijdoaa.Ev
open Go Go.Proofs
def slTk : List Nat := [0, 4, 5, 6]
def lvTk : AX → List Nat := fun x => match x with
  | .exit _ => [0, 5]
  | _ => slTk
def FTk (b : List U8) (l : List In) (c cl : Nat) (n : Int) : AFr := mkF 61 [(0, .slice (some ⟨0, 0, some 0⟩) b.length c), (4, .pointer (some ⟨1, 0, none⟩)), (5, .slice (some ⟨2, 0, some 0⟩) l.length cl), (6, .int .u64 n)]
def STk (b : List U8) (k m cb : Nat) (l : List In) : ASt := mkS [some (rowO .look b), some (.cells [.slice (some ⟨0, 0, some k⟩) m cb, .bool false] true 0), some (rowO .mine l)]
def STb (b : List U8) (l : List In) : ASt := mkS [some (rowO .look b), some (.cells [.slice none 0 0, .bool true] true 0), some (rowO .mine l)]
def FTx (b : List U8) (l : List In) (c cl : Nat) : AFr := mkF 61 [(0, .slice (some ⟨0, 0, some 0⟩) b.length c), (5, .slice (some ⟨1, 0, some 0⟩) l.length cl)]
def STx (b : List U8) (l : List In) : ASt := mkS [some (rowO .look b), some (rowO .mine l)]
def FTr (b : List U8) (l : List In) (c cl : Nat) (n : Int) : AFr := mkF 61 [(0, .slice (some ⟨0, 0, some 0⟩) b.length c), (4, .pointer (some ⟨1, 0, none⟩)), (5, .slice (some ⟨2, 0, some 0⟩) (l.length + 1) cl), (6, .int .u64 (IntKind.wrap .u64 (n - 1)))]
def shpTkB (b : List U8) (l : List In) (c cl : Nat) (n : Int) (x0' x1' x2' x3' x4' x5' : Int) (x6' : Nat) : AFr × ASt := (FTr b l c cl n, mkS [some (rowO .look b), some (.cells [.slice none 0 0, .bool true] true 0), some (.row .mine 7 0 (l.length + 1) fun j k => mrgT (Nat.blt j l.length) (encL l (0 + j) k) (selT 7 1 [.sc (.int .i64 x0'), .sc (.int .i64 x1'), .sc (.int .i64 x2'), .sc (.int .i64 x3'), .sc (.int .i64 x4'), .sc (.int .i64 x5'), .sc (.float .f64 x6')] (j - l.length) k))])
def shpTkG (b : List U8) (l : List In) (c cl : Nat) (n : Int) (k' m' cb' : Nat) (x0' x1' x2' x3' x4' x5' : Int) (x6' : Nat) : AFr × ASt := (FTr b l c cl n, mkS [some (rowO .look b), some (.cells [.slice (some ⟨0, 0, some k'⟩) m' cb', .bool false] true 0), some (.row .mine 7 0 (l.length + 1) fun j k => mrgT (Nat.blt j l.length) (encL l (0 + j) k) (selT 7 1 [.sc (.int .i64 x0'), .sc (.int .i64 x1'), .sc (.int .i64 x2'), .sc (.int .i64 x3'), .sc (.int .i64 x4'), .sc (.int .i64 x5'), .sc (.float .f64 x6')] (j - l.length) k))])
def shpTx (b : List U8) (l : List In) (c cl : Nat) : AFr × ASt := (FTx b l c cl, STx b l)
theorem vc_tb_r (b : List U8) (l : List In) (c cl : Nat) (n : Int) (β : Bs) (N : Kt) (ex : Nat → Kt → Prop) : roundJ Try.prog toldB9 100 20 β (fun _ => 0) (cnOf 1 fun _ => slTk) ex 10 0 1 lvTk (FTk b l c cl n) (STb b l) N =
(  br (decide (n > (0 : Int))) (onP N (AX.exit 0) (shpTx b l c cl)) (onP N (AX.exit 0) (shpTx b l c cl))) := by kernel_rfl
theorem vc_tk_r (b : List U8) (l : List In) (c cl k m cb : Nat) (n : Int) (β : Bs) (N : Kt) (ex : Nat → Kt → Prop) : roundJ Try.prog toldB9 100 20 β (fun _ => 0) (cnOf 1 fun _ => slTk) ex 10 0 1 lvTk (FTk b l c cl n) (STk b k m cb l) N =
(  br (decide (n > (0 : Int)))
  (br (decide ((1 : Int) > Int.ofNat m))
  (need (Nat.ble (List.length l + 1) 1000000)
  (need (true && Nat.ble (0 + List.length l) (List.length l))
  (onP N AX.normal (shpTkB b l c cl n (0 : Int) (0 : Int) (0 : Int) (0 : Int) (0 : Int) (0 : Int) 0))))
  (need (Nat.ble 1 m)
  (need (Nat.ble 0 (k + 0 + 0) && Nat.blt (k + 0 + 0) (List.length b))
  (need (Nat.ble 1 m)
  (br (decide ((1 : Int) > Int.ofNat (m - 1)))
  (br
  (IntKind.wrap IntKind.i64
  (IntKind.wrap IntKind.u64
  (Int.ofNat
  (BitVec.toNat
  (BitVec.ofInt 64 (0 : Int) |||
  BitVec.ofInt 64
  (IntKind.wrap IntKind.u64 (U8.v (List.getD b (k + 0 + 0) Enc.dflt))))))) ==
  (1 : Int))
  (need (Nat.ble (List.length l + 1) 1000000)
  (need (true && Nat.ble (0 + List.length l) (List.length l))
  (onP N AX.normal
  (shpTkB b l c cl n
  (IntKind.wrap IntKind.i64
  (IntKind.wrap IntKind.u64
  (Int.ofNat
  (BitVec.toNat
  (BitVec.ofInt 64 (0 : Int) |||
  BitVec.ofInt 64
  (IntKind.wrap IntKind.u64
  (U8.v (List.getD b (k + 0 + 0) Enc.dflt))))))))
  (0 : Int) (0 : Int) (0 : Int) (0 : Int) (0 : Int) 0))))
  (need (Nat.ble (List.length l + 1) 1000000)
  (need (true && Nat.ble (0 + List.length l) (List.length l))
  (onP N AX.normal
  (shpTkB b l c cl n
  (IntKind.wrap IntKind.i64
  (IntKind.wrap IntKind.u64
  (Int.ofNat
  (BitVec.toNat
  (BitVec.ofInt 64 (0 : Int) |||
  BitVec.ofInt 64
  (IntKind.wrap IntKind.u64
  (U8.v (List.getD b (k + 0 + 0) Enc.dflt))))))))
  (0 : Int) (0 : Int) (0 : Int) (0 : Int) (0 : Int) 0)))))
  (need (Nat.ble 1 (m - 1))
  (need
  (Nat.ble 0 (k + 1 + 0 + 0) &&
  Nat.blt (k + 1 + 0 + 0) (List.length b))
  (need (Nat.ble 1 (m - 1))
  (br (decide ((2 : Int) > Int.ofNat (m - 1 - 1)))
  (br
  (IntKind.wrap IntKind.i64
  (IntKind.wrap IntKind.u64
  (Int.ofNat
  (BitVec.toNat
  (BitVec.ofInt 64 (0 : Int) |||
  BitVec.ofInt 64
  (IntKind.wrap IntKind.u64
  (U8.v (List.getD b (k + 0 + 0) Enc.dflt))))))) ==
  (1 : Int))
  (br
  (IntKind.wrap IntKind.i64
  (IntKind.wrap IntKind.u64
  (Int.ofNat
  (BitVec.toNat
  (BitVec.ofInt 64 (0 : Int) |||
  BitVec.ofInt 64
  (IntKind.wrap IntKind.u64
  (U8.v (List.getD b (k + 1 + 0 + 0) Enc.dflt))))))) ==
  (1 : Int))
  (br
  (IntKind.wrap IntKind.i64
  (IntKind.wrap IntKind.u64
  (Int.ofNat
  (BitVec.toNat
  (BitVec.ofInt 64 (0 : Int) |||
  BitVec.ofInt 64
  (IntKind.wrap IntKind.u64
  (U8.v (List.getD b (k + 1 + 0 + 0) Enc.dflt))))))) ==
  (5 : Int))
  (need (Nat.ble (List.length l + 1) 1000000)
  (need (true && Nat.ble (0 + List.length l) (List.length l))
  (onP N AX.normal
  (shpTkB b l c cl n
  (IntKind.wrap IntKind.i64
  (IntKind.wrap IntKind.u64
  (Int.ofNat
  (BitVec.toNat
  (BitVec.ofInt 64 (0 : Int) |||
  BitVec.ofInt 64
  (IntKind.wrap IntKind.u64
  (U8.v (List.getD b (k + 0 + 0) Enc.dflt))))))))
  (IntKind.wrap IntKind.i64
  (IntKind.wrap IntKind.u64
  (Int.ofNat
  (BitVec.toNat
  (BitVec.ofInt 64 (0 : Int) |||
  BitVec.ofInt 64
  (IntKind.wrap IntKind.u64
  (U8.v
  (List.getD b (k + 1 + 0 + 0) Enc.dflt))))))))
  (0 : Int) (0 : Int)
  (IntKind.wrap IntKind.i64
  (IntKind.wrap IntKind.u64
  (Int.ofNat
  (BitVec.toNat
  (BitVec.ofInt 64 (0 : Int) |||
  BitVec.ofInt 64
  (IntKind.wrap IntKind.u64
  (U8.v
  (List.getD b (k + 1 + 0 + 0) Enc.dflt))))))))
  (0 : Int) 0))))
  (br
  (IntKind.wrap IntKind.i64
  (IntKind.wrap IntKind.u64
  (Int.ofNat
  (BitVec.toNat
  (BitVec.ofInt 64 (0 : Int) |||
  BitVec.ofInt 64
  (IntKind.wrap IntKind.u64
  (U8.v
  (List.getD b (k + 1 + 0 + 0) Enc.dflt))))))) ==
  (2 : Int))
  (need (Nat.ble (List.length l + 1) 1000000)
  (need (true && Nat.ble (0 + List.length l) (List.length l))
  (onP N AX.normal
  (shpTkB b l c cl n
  (IntKind.wrap IntKind.i64
  (IntKind.wrap IntKind.u64
  (Int.ofNat
  (BitVec.toNat
  (BitVec.ofInt 64 (0 : Int) |||
  BitVec.ofInt 64
  (IntKind.wrap IntKind.u64
  (U8.v (List.getD b (k + 0 + 0) Enc.dflt))))))))
  (IntKind.wrap IntKind.i64
  (IntKind.wrap IntKind.u64
  (Int.ofNat
  (BitVec.toNat
  (BitVec.ofInt 64 (0 : Int) |||
  BitVec.ofInt 64
  (IntKind.wrap IntKind.u64
  (U8.v
  (List.getD b (k + 1 + 0 + 0)
  Enc.dflt))))))))
  (0 : Int) (0 : Int)
  (IntKind.wrap IntKind.i64
  (IntKind.wrap IntKind.u64
  (Int.ofNat
  (BitVec.toNat
  (BitVec.ofInt 64 (0 : Int) |||
  BitVec.ofInt 64
  (IntKind.wrap IntKind.u64
  (U8.v
  (List.getD b (k + 1 + 0 + 0)
  Enc.dflt))))))))
  (0 : Int) 0))))
  (br
  (IntKind.wrap IntKind.i64
  (IntKind.wrap IntKind.u64
  (Int.ofNat
  (BitVec.toNat
  (BitVec.ofInt 64 (0 : Int) |||
  BitVec.ofInt 64
  (IntKind.wrap IntKind.u64
  (U8.v
  (List.getD b (k + 1 + 0 + 0) Enc.dflt))))))) ==
  (3 : Int))
  (need (Nat.ble (List.length l + 1) 1000000)
  (need (true && Nat.ble (0 + List.length l) (List.length l))
  (onP N AX.normal
  (shpTkB b l c cl n
  (IntKind.wrap IntKind.i64
  (IntKind.wrap IntKind.u64
  (Int.ofNat
  (BitVec.toNat
  (BitVec.ofInt 64 (0 : Int) |||
  BitVec.ofInt 64
  (IntKind.wrap IntKind.u64
  (U8.v (List.getD b (k + 0 + 0) Enc.dflt))))))))
  (IntKind.wrap IntKind.i64
  (IntKind.wrap IntKind.u64
  (Int.ofNat
  (BitVec.toNat
  (BitVec.ofInt 64 (0 : Int) |||
  BitVec.ofInt 64
  (IntKind.wrap IntKind.u64
  (U8.v
  (List.getD b (k + 1 + 0 + 0)
  Enc.dflt))))))))
  (0 : Int) (0 : Int)
  (IntKind.wrap IntKind.i64
  (IntKind.wrap IntKind.u64
  (Int.ofNat
  (BitVec.toNat
  (BitVec.ofInt 64 (0 : Int) |||
  BitVec.ofInt 64
  (IntKind.wrap IntKind.u64
  (U8.v
  (List.getD b (k + 1 + 0 + 0)
  Enc.dflt))))))))
  (0 : Int) 0))))
  (need (Nat.ble (List.length l + 1) 1000000)
  (need (true && Nat.ble (0 + List.length l) (List.length l))
  (onP N AX.normal
  (shpTkB b l c cl n
  (IntKind.wrap IntKind.i64
  (IntKind.wrap IntKind.u64
  (Int.ofNat
  (BitVec.toNat
  (BitVec.ofInt 64 (0 : Int) |||
  BitVec.ofInt 64
  (IntKind.wrap IntKind.u64
  (U8.v (List.getD b (k + 0 + 0) Enc.dflt))))))))
  (IntKind.wrap IntKind.i64
  (IntKind.wrap IntKind.u64
  (Int.ofNat
  (BitVec.toNat
  (BitVec.ofInt 64 (0 : Int) |||
  BitVec.ofInt 64
  (IntKind.wrap IntKind.u64
  (U8.v
  (List.getD b (k + 1 + 0 + 0)
  Enc.dflt))))))))
  (0 : Int) (0 : Int)
  (IntKind.wrap IntKind.i64
  (IntKind.wrap IntKind.u64
  (Int.ofNat
  (BitVec.toNat
  (BitVec.ofInt 64 (0 : Int) |||
  BitVec.ofInt 64
  (IntKind.wrap IntKind.u64
  (U8.v
  (List.getD b (k + 1 + 0 + 0)
  Enc.dflt))))))))
  (0 : Int) 0)))))))
  (br
  (IntKind.wrap IntKind.i64
  (IntKind.wrap IntKind.u64
  (Int.ofNat
  (BitVec.toNat
  (BitVec.ofInt 64 (0 : Int) |||
  BitVec.ofInt 64
  (IntKind.wrap IntKind.u64
  (U8.v (List.getD b (k + 1 + 0 + 0) Enc.dflt))))))) ==
  (2 : Int))
  (br
  (IntKind.wrap IntKind.i64
  (IntKind.wrap IntKind.u64
  (Int.ofNat
  (BitVec.toNat
  (BitVec.ofInt 64 (0 : Int) |||
  BitVec.ofInt 64
  (IntKind.wrap IntKind.u64
  (U8.v
  (List.getD b (k + 1 + 0 + 0) Enc.dflt))))))) ==
  (5 : Int))
  (need (Nat.ble (List.length l + 1) 1000000)
  (need (true && Nat.ble (0 + List.length l) (List.length l))
  (onP N AX.normal
  (shpTkB b l c cl n
  (IntKind.wrap IntKind.i64
  (IntKind.wrap IntKind.u64
  (Int.ofNat
  (BitVec.toNat
  (BitVec.ofInt 64 (0 : Int) |||
  BitVec.ofInt 64
  (IntKind.wrap IntKind.u64
  (U8.v (List.getD b (k + 0 + 0) Enc.dflt))))))))
  (IntKind.wrap IntKind.i64
  (IntKind.wrap IntKind.u64
  (Int.ofNat
  (BitVec.toNat
  (BitVec.ofInt 64 (0 : Int) |||
  BitVec.ofInt 64
  (IntKind.wrap IntKind.u64
  (U8.v
  (List.getD b (k + 1 + 0 + 0)
  Enc.dflt))))))))
  (0 : Int) (0 : Int)
  (IntKind.wrap IntKind.i64
  (IntKind.wrap IntKind.u64
  (Int.ofNat
  (BitVec.toNat
  (BitVec.ofInt 64 (0 : Int) |||
  BitVec.ofInt 64
  (IntKind.wrap IntKind.u64
  (U8.v
  (List.getD b (k + 1 + 0 + 0)
  Enc.dflt))))))))
  (0 : Int) 0))))
  (br
  (IntKind.wrap IntKind.i64
  (IntKind.wrap IntKind.u64
  (Int.ofNat
  (BitVec.toNat
  (BitVec.ofInt 64 (0 : Int) |||
  BitVec.ofInt 64
  (IntKind.wrap IntKind.u64
  (U8.v
  (List.getD b (k + 1 + 0 + 0) Enc.dflt))))))) ==
  (2 : Int))
  (need (Nat.ble (List.length l + 1) 1000000)
  (need (true && Nat.ble (0 + List.length l) (List.length l))
  (onP N AX.normal
  (shpTkB b l c cl n
  (IntKind.wrap IntKind.i64
  (IntKind.wrap IntKind.u64
  (Int.ofNat
  (BitVec.toNat
  (BitVec.ofInt 64 (0 : Int) |||
  BitVec.ofInt 64
  (IntKind.wrap IntKind.u64
  (U8.v (List.getD b (k + 0 + 0) Enc.dflt))))))))
  (IntKind.wrap IntKind.i64
  (IntKind.wrap IntKind.u64
  (Int.ofNat
  (BitVec.toNat
  (BitVec.ofInt 64 (0 : Int) |||
  BitVec.ofInt 64
  (IntKind.wrap IntKind.u64
  (U8.v
  (List.getD b (k + 1 + 0 + 0)
  Enc.dflt))))))))
  (0 : Int) (0 : Int)
  (IntKind.wrap IntKind.i64
  (IntKind.wrap IntKind.u64
  (Int.ofNat
  (BitVec.toNat
  (BitVec.ofInt 64 (0 : Int) |||
  BitVec.ofInt 64
  (IntKind.wrap IntKind.u64
  (U8.v
  (List.getD b (k + 1 + 0 + 0)
  Enc.dflt))))))))
  (0 : Int) 0))))
  (br
  (IntKind.wrap IntKind.i64
  (IntKind.wrap IntKind.u64
  (Int.ofNat
  (BitVec.toNat
  (BitVec.ofInt 64 (0 : Int) |||
  BitVec.ofInt 64
  (IntKind.wrap IntKind.u64
  (U8.v
  (List.getD b (k + 1 + 0 + 0)
  Enc.dflt))))))) ==
  (3 : Int))
  (need (Nat.ble (List.length l + 1) 1000000)
  (need (true && Nat.ble (0 + List.length l) (List.length l))
  (onP N AX.normal
  (shpTkB b l c cl n
  (IntKind.wrap IntKind.i64
  (IntKind.wrap IntKind.u64
  (Int.ofNat
  (BitVec.toNat
  (BitVec.ofInt 64 (0 : Int) |||
  BitVec.ofInt 64
  (IntKind.wrap IntKind.u64
  (U8.v (List.getD b (k + 0 + 0) Enc.dflt))))))))
  (IntKind.wrap IntKind.i64
  (IntKind.wrap IntKind.u64
  (Int.ofNat
  (BitVec.toNat
  (BitVec.ofInt 64 (0 : Int) |||
  BitVec.ofInt 64
  (IntKind.wrap IntKind.u64
  (U8.v
  (List.getD b (k + 1 + 0 + 0)
  Enc.dflt))))))))
  (0 : Int) (0 : Int)
  (IntKind.wrap IntKind.i64
  (IntKind.wrap IntKind.u64
  (Int.ofNat
  (BitVec.toNat
  (BitVec.ofInt 64 (0 : Int) |||
  BitVec.ofInt 64
  (IntKind.wrap IntKind.u64
  (U8.v
  (List.getD b (k + 1 + 0 + 0)
  Enc.dflt))))))))
  (0 : Int) 0))))
  (need (Nat.ble (List.length l + 1) 1000000)
  (need (true && Nat.ble (0 + List.length l) (List.length l))
  (onP N AX.normal
  (shpTkB b l c cl n
  (IntKind.wrap IntKind.i64
  (IntKind.wrap IntKind.u64
  (Int.ofNat
  (BitVec.toNat
  (BitVec.ofInt 64 (0 : Int) |||
  BitVec.ofInt 64
  (IntKind.wrap IntKind.u64
  (U8.v (List.getD b (k + 0 + 0) Enc.dflt))))))))
  (IntKind.wrap IntKind.i64
  (IntKind.wrap IntKind.u64
  (Int.ofNat
  (BitVec.toNat
  (BitVec.ofInt 64 (0 : Int) |||
  BitVec.ofInt 64
  (IntKind.wrap IntKind.u64
  (U8.v
  (List.getD b (k + 1 + 0 + 0)
  Enc.dflt))))))))
  (0 : Int) (0 : Int)
  (IntKind.wrap IntKind.i64
  (IntKind.wrap IntKind.u64
  (Int.ofNat
  (BitVec.toNat
  (BitVec.ofInt 64 (0 : Int) |||
  BitVec.ofInt 64
  (IntKind.wrap IntKind.u64
  (U8.v
  (List.getD b (k + 1 + 0 + 0)
  Enc.dflt))))))))
  (0 : Int) 0)))))))
  (br
  (IntKind.wrap IntKind.i64
  (IntKind.wrap IntKind.u64
  (Int.ofNat
  (BitVec.toNat
  (BitVec.ofInt 64 (0 : Int) |||
  BitVec.ofInt 64
  (IntKind.wrap IntKind.u64
  (U8.v
  (List.getD b (k + 1 + 0 + 0) Enc.dflt))))))) ==
  (3 : Int))
  (br
  (IntKind.wrap IntKind.i64
  (IntKind.wrap IntKind.u64
  (Int.ofNat
  (BitVec.toNat
  (BitVec.ofInt 64 (0 : Int) |||
  BitVec.ofInt 64
  (IntKind.wrap IntKind.u64
  (U8.v
  (List.getD b (k + 1 + 0 + 0) Enc.dflt))))))) ==
  (5 : Int))
  (need (Nat.ble (List.length l + 1) 1000000)
  (need (true && Nat.ble (0 + List.length l) (List.length l))
  (onP N AX.normal
  (shpTkB b l c cl n
  (IntKind.wrap IntKind.i64
  (IntKind.wrap IntKind.u64
  (Int.ofNat
  (BitVec.toNat
  (BitVec.ofInt 64 (0 : Int) |||
  BitVec.ofInt 64
  (IntKind.wrap IntKind.u64
  (U8.v (List.getD b (k + 0 + 0) Enc.dflt))))))))
  (IntKind.wrap IntKind.i64
  (IntKind.wrap IntKind.u64
  (Int.ofNat
  (BitVec.toNat
  (BitVec.ofInt 64 (0 : Int) |||
  BitVec.ofInt 64
  (IntKind.wrap IntKind.u64
  (U8.v
  (List.getD b (k + 1 + 0 + 0)
  Enc.dflt))))))))
  (0 : Int) (0 : Int)
  (IntKind.wrap IntKind.i64
  (IntKind.wrap IntKind.u64
  (Int.ofNat
  (BitVec.toNat
  (BitVec.ofInt 64 (0 : Int) |||
  BitVec.ofInt 64
  (IntKind.wrap IntKind.u64
  (U8.v
  (List.getD b (k + 1 + 0 + 0)
  Enc.dflt))))))))
  (0 : Int) 0))))
  (br
  (IntKind.wrap IntKind.i64
  (IntKind.wrap IntKind.u64
  (Int.ofNat
  (BitVec.toNat
  (BitVec.ofInt 64 (0 : Int) |||
  BitVec.ofInt 64
  (IntKind.wrap IntKind.u64
  (U8.v
  (List.getD b (k + 1 + 0 + 0)
  Enc.dflt))))))) ==
  (2 : Int))
  (need (Nat.ble (List.length l + 1) 1000000)
  (need (true && Nat.ble (0 + List.length l) (List.length l))
  (onP N AX.normal
  (shpTkB b l c cl n
  (IntKind.wrap IntKind.i64
  (IntKind.wrap IntKind.u64
  (Int.ofNat
  (BitVec.toNat
  (BitVec.ofInt 64 (0 : Int) |||
  BitVec.ofInt 64
  (IntKind.wrap IntKind.u64
  (U8.v (List.getD b (k + 0 + 0) Enc.dflt))))))))
  (IntKind.wrap IntKind.i64
  (IntKind.wrap IntKind.u64
  (Int.ofNat
  (BitVec.toNat
  (BitVec.ofInt 64 (0 : Int) |||
  BitVec.ofInt 64
  (IntKind.wrap IntKind.u64
  (U8.v
  (List.getD b (k + 1 + 0 + 0)
  Enc.dflt))))))))
  (0 : Int) (0 : Int)
  (IntKind.wrap IntKind.i64
  (IntKind.wrap IntKind.u64
  (Int.ofNat
  (BitVec.toNat
  (BitVec.ofInt 64 (0 : Int) |||
  BitVec.ofInt 64
  (IntKind.wrap IntKind.u64
  (U8.v
  (List.getD b (k + 1 + 0 + 0)
  Enc.dflt))))))))
  (0 : Int) 0))))
  (br
  (IntKind.wrap IntKind.i64
  (IntKind.wrap IntKind.u64
  (Int.ofNat
  (BitVec.toNat
  (BitVec.ofInt 64 (0 : Int) |||
  BitVec.ofInt 64
  (IntKind.wrap IntKind.u64
  (U8.v
  (List.getD b (k + 1 + 0 + 0)
  Enc.dflt))))))) ==
  (3 : Int))
  (need (Nat.ble (List.length l + 1) 1000000)
  (need (true && Nat.ble (0 + List.length l) (List.length l))
  (onP N AX.normal
  (shpTkB b l c cl n
  (IntKind.wrap IntKind.i64
  (IntKind.wrap IntKind.u64
  (Int.ofNat
  (BitVec.toNat
  (BitVec.ofInt 64 (0 : Int) |||
  BitVec.ofInt 64
  (IntKind.wrap IntKind.u64
  (U8.v (List.getD b (k + 0 + 0) Enc.dflt))))))))
  (IntKind.wrap IntKind.i64
  (IntKind.wrap IntKind.u64
  (Int.ofNat
  (BitVec.toNat
  (BitVec.ofInt 64 (0 : Int) |||
  BitVec.ofInt 64
  (IntKind.wrap IntKind.u64
  (U8.v
  (List.getD b (k + 1 + 0 + 0)
  Enc.dflt))))))))
  (0 : Int) (0 : Int)
  (IntKind.wrap IntKind.i64
  (IntKind.wrap IntKind.u64
  (Int.ofNat
  (BitVec.toNat
  (BitVec.ofInt 64 (0 : Int) |||
  BitVec.ofInt 64
  (IntKind.wrap IntKind.u64
  (U8.v
  (List.getD b (k + 1 + 0 + 0)
  Enc.dflt))))))))
  (0 : Int) 0))))
  (need (Nat.ble (List.length l + 1) 1000000)
  (need (true && Nat.ble (0 + List.length l) (List.length l))
  (onP N AX.normal
  (shpTkB b l c cl n
  (IntKind.wrap IntKind.i64
  (IntKind.wrap IntKind.u64
  (Int.ofNat
  (BitVec.toNat
  (BitVec.ofInt 64 (0 : Int) |||
  BitVec.ofInt 64
  (IntKind.wrap IntKind.u64
  (U8.v (List.getD b (k + 0 + 0) Enc.dflt))))))))
  (IntKind.wrap IntKind.i64
  (IntKind.wrap IntKind.u64
  (Int.ofNat
  (BitVec.toNat
  (BitVec.ofInt 64 (0 : Int) |||
  BitVec.ofInt 64
  (IntKind.wrap IntKind.u64
  (U8.v
  (List.getD b (k + 1 + 0 + 0)
  Enc.dflt))))))))
  (0 : Int) (0 : Int)
  (IntKind.wrap IntKind.i64
  (IntKind.wrap IntKind.u64
  (Int.ofNat
  (BitVec.toNat
  (BitVec.ofInt 64 (0 : Int) |||
  BitVec.ofInt 64
  (IntKind.wrap IntKind.u64
  (U8.v
  (List.getD b (k + 1 + 0 + 0)
  Enc.dflt))))))))
  (0 : Int) 0)))))))
  (br
  (IntKind.wrap IntKind.i64
  (IntKind.wrap IntKind.u64
  (Int.ofNat
  (BitVec.toNat
  (BitVec.ofInt 64 (0 : Int) |||
  BitVec.ofInt 64
  (IntKind.wrap IntKind.u64
  (U8.v
  (List.getD b (k + 1 + 0 + 0) Enc.dflt))))))) ==
  (4 : Int))
  (br
  (IntKind.wrap IntKind.i64
  (IntKind.wrap IntKind.u64
  (Int.ofNat
  (BitVec.toNat
  (BitVec.ofInt 64 (0 : Int) |||
  BitVec.ofInt 64
  (IntKind.wrap IntKind.u64
  (U8.v
  (List.getD b (k + 1 + 0 + 0)
  Enc.dflt))))))) ==
  (5 : Int))
  (need (Nat.ble (List.length l + 1) 1000000)
  (need (true && Nat.ble (0 + List.length l) (List.length l))
  (onP N AX.normal
  (shpTkB b l c cl n
  (IntKind.wrap IntKind.i64
  (IntKind.wrap IntKind.u64
  (Int.ofNat
  (BitVec.toNat
  (BitVec.ofInt 64 (0 : Int) |||
  BitVec.ofInt 64
  (IntKind.wrap IntKind.u64
  (U8.v (List.getD b (k + 0 + 0) Enc.dflt))))))))
  (IntKind.wrap IntKind.i64
  (IntKind.wrap IntKind.u64
  (Int.ofNat
  (BitVec.toNat
  (BitVec.ofInt 64 (0 : Int) |||
  BitVec.ofInt 64
  (IntKind.wrap IntKind.u64
  (U8.v
  (List.getD b (k + 1 + 0 + 0)
  Enc.dflt))))))))
  (0 : Int) (0 : Int)
  (IntKind.wrap IntKind.i64
  (IntKind.wrap IntKind.u64
  (Int.ofNat
  (BitVec.toNat
  (BitVec.ofInt 64 (0 : Int) |||
  BitVec.ofInt 64
  (IntKind.wrap IntKind.u64
  (U8.v
  (List.getD b (k + 1 + 0 + 0)
  Enc.dflt))))))))
  (0 : Int) 0))))
  (br
  (IntKind.wrap IntKind.i64
  (IntKind.wrap IntKind.u64
  (Int.ofNat
  (BitVec.toNat
  (BitVec.ofInt 64 (0 : Int) |||
  BitVec.ofInt 64
  (IntKind.wrap IntKind.u64
  (U8.v
  (List.getD b (k + 1 + 0 + 0)
  Enc.dflt))))))) ==
  (2 : Int))
  (need (Nat.ble (List.length l + 1) 1000000)
  (need (true && Nat.ble (0 + List.length l) (List.length l))
  (onP N AX.normal
  (shpTkB b l c cl n
  (IntKind.wrap IntKind.i64
  (IntKind.wrap IntKind.u64
  (Int.ofNat
  (BitVec.toNat
  (BitVec.ofInt 64 (0 : Int) |||
  BitVec.ofInt 64
  (IntKind.wrap IntKind.u64
  (U8.v (List.getD b (k + 0 + 0) Enc.dflt))))))))
  (IntKind.wrap IntKind.i64
  (IntKind.wrap IntKind.u64
  (Int.ofNat
  (BitVec.toNat
  (BitVec.ofInt 64 (0 : Int) |||
  BitVec.ofInt 64
  (IntKind.wrap IntKind.u64
  (U8.v
  (List.getD b (k + 1 + 0 + 0)
  Enc.dflt))))))))
  (0 : Int) (0 : Int)
  (IntKind.wrap IntKind.i64
  (IntKind.wrap IntKind.u64
  (Int.ofNat
  (BitVec.toNat
  (BitVec.ofInt 64 (0 : Int) |||
  BitVec.ofInt 64
  (IntKind.wrap IntKind.u64
  (U8.v
  (List.getD b (k + 1 + 0 + 0)
  Enc.dflt))))))))
  (0 : Int) 0))))
  (br
  (IntKind.wrap IntKind.i64
  (IntKind.wrap IntKind.u64
  (Int.ofNat
  (BitVec.toNat
  (BitVec.ofInt 64 (0 : Int) |||
  BitVec.ofInt 64
  (IntKind.wrap IntKind.u64
  (U8.v
  (List.getD b (k + 1 + 0 + 0)
  Enc.dflt))))))) ==
  (3 : Int))
  (need (Nat.ble (List.length l + 1) 1000000)
  (need (true && Nat.ble (0 + List.length l) (List.length l))
  (onP N AX.normal
  (shpTkB b l c cl n
  (IntKind.wrap IntKind.i64
  (IntKind.wrap IntKind.u64
  (Int.ofNat
  (BitVec.toNat
  (BitVec.ofInt 64 (0 : Int) |||
  BitVec.ofInt 64
  (IntKind.wrap IntKind.u64
  (U8.v
  (List.getD b (k + 0 + 0) Enc.dflt))))))))
  (IntKind.wrap IntKind.i64
  (IntKind.wrap IntKind.u64
  (Int.ofNat
  (BitVec.toNat
  (BitVec.ofInt 64 (0 : Int) |||
  BitVec.ofInt 64
  (IntKind.wrap IntKind.u64
  (U8.v
  (List.getD b (k + 1 + 0 + 0)
  Enc.dflt))))))))
  (0 : Int) (0 : Int)
  (IntKind.wrap IntKind.i64
  (IntKind.wrap IntKind.u64
  (Int.ofNat
  (BitVec.toNat
  (BitVec.ofInt 64 (0 : Int) |||
  BitVec.ofInt 64
  (IntKind.wrap IntKind.u64
  (U8.v
  (List.getD b (k + 1 + 0 + 0)
  Enc.dflt))))))))
  (0 : Int) 0))))
  (need (Nat.ble (List.length l + 1) 1000000)
  (need (true && Nat.ble (0 + List.length l) (List.length l))
  (onP N AX.normal
  (shpTkB b l c cl n
  (IntKind.wrap IntKind.i64
  (IntKind.wrap IntKind.u64
  (Int.ofNat
  (BitVec.toNat
  (BitVec.ofInt 64 (0 : Int) |||
  BitVec.ofInt 64
  (IntKind.wrap IntKind.u64
  (U8.v
  (List.getD b (k + 0 + 0) Enc.dflt))))))))
  (IntKind.wrap IntKind.i64
  (IntKind.wrap IntKind.u64
  (Int.ofNat
  (BitVec.toNat
  (BitVec.ofInt 64 (0 : Int) |||
  BitVec.ofInt 64
  (IntKind.wrap IntKind.u64
  (U8.v
  (List.getD b (k + 1 + 0 + 0)
  Enc.dflt))))))))
  (0 : Int) (0 : Int)
  (IntKind.wrap IntKind.i64
  (IntKind.wrap IntKind.u64
  (Int.ofNat
  (BitVec.toNat
  (BitVec.ofInt 64 (0 : Int) |||
  BitVec.ofInt 64
  (IntKind.wrap IntKind.u64
  (U8.v
  (List.getD b (k + 1 + 0 + 0)
  Enc.dflt))))))))
  (0 : Int) 0)))))))
  (br
  (IntKind.wrap IntKind.i64
  (IntKind.wrap IntKind.u64
  (Int.ofNat
  (BitVec.toNat
  (BitVec.ofInt 64 (0 : Int) |||
  BitVec.ofInt 64
  (IntKind.wrap IntKind.u64
  (U8.v
  (List.getD b (k + 1 + 0 + 0)
  Enc.dflt))))))) ==
  (5 : Int))
  (br
  (IntKind.wrap IntKind.i64
  (IntKind.wrap IntKind.u64
  (Int.ofNat
  (BitVec.toNat
  (BitVec.ofInt 64 (0 : Int) |||
  BitVec.ofInt 64
  (IntKind.wrap IntKind.u64
  (U8.v
  (List.getD b (k + 1 + 0 + 0)
  Enc.dflt))))))) ==
  (5 : Int))
  (need (Nat.ble (List.length l + 1) 1000000)
  (need (true && Nat.ble (0 + List.length l) (List.length l))
  (onP N AX.normal
  (shpTkB b l c cl n
  (IntKind.wrap IntKind.i64
  (IntKind.wrap IntKind.u64
  (Int.ofNat
  (BitVec.toNat
  (BitVec.ofInt 64 (0 : Int) |||
  BitVec.ofInt 64
  (IntKind.wrap IntKind.u64
  (U8.v (List.getD b (k + 0 + 0) Enc.dflt))))))))
  (IntKind.wrap IntKind.i64
  (IntKind.wrap IntKind.u64
  (Int.ofNat
  (BitVec.toNat
  (BitVec.ofInt 64 (0 : Int) |||
  BitVec.ofInt 64
  (IntKind.wrap IntKind.u64
  (U8.v
  (List.getD b (k + 1 + 0 + 0)
  Enc.dflt))))))))
  (0 : Int) (0 : Int)
  (IntKind.wrap IntKind.i64
  (IntKind.wrap IntKind.u64
  (Int.ofNat
  (BitVec.toNat
  (BitVec.ofInt 64 (0 : Int) |||
  BitVec.ofInt 64
  (IntKind.wrap IntKind.u64
  (U8.v
  (List.getD b (k + 1 + 0 + 0)
  Enc.dflt))))))))
  (0 : Int) 0))))
  (br
  (IntKind.wrap IntKind.i64
  (IntKind.wrap IntKind.u64
  (Int.ofNat
  (BitVec.toNat
  (BitVec.ofInt 64 (0 : Int) |||
  BitVec.ofInt 64
  (IntKind.wrap IntKind.u64
  (U8.v
  (List.getD b (k + 1 + 0 + 0)
  Enc.dflt))))))) ==
  (2 : Int))
  (need (Nat.ble (List.length l + 1) 1000000)
  (need (true && Nat.ble (0 + List.length l) (List.length l))
  (onP N AX.normal
  (shpTkB b l c cl n
  (IntKind.wrap IntKind.i64
  (IntKind.wrap IntKind.u64
  (Int.ofNat
  (BitVec.toNat
  (BitVec.ofInt 64 (0 : Int) |||
  BitVec.ofInt 64
  (IntKind.wrap IntKind.u64
  (U8.v
  (List.getD b (k + 0 + 0) Enc.dflt))))))))
  (IntKind.wrap IntKind.i64
  (IntKind.wrap IntKind.u64
  (Int.ofNat
  (BitVec.toNat
  (BitVec.ofInt 64 (0 : Int) |||
  BitVec.ofInt 64
  (IntKind.wrap IntKind.u64
  (U8.v
  (List.getD b (k + 1 + 0 + 0)
  Enc.dflt))))))))
  (0 : Int) (0 : Int)
  (IntKind.wrap IntKind.i64
  (IntKind.wrap IntKind.u64
  (Int.ofNat
  (BitVec.toNat
  (BitVec.ofInt 64 (0 : Int) |||
  BitVec.ofInt 64
  (IntKind.wrap IntKind.u64
  (U8.v
  (List.getD b (k + 1 + 0 + 0)
  Enc.dflt))))))))
  (0 : Int) 0))))
  (br
  (IntKind.wrap IntKind.i64
  (IntKind.wrap IntKind.u64
  (Int.ofNat
  (BitVec.toNat
  (BitVec.ofInt 64 (0 : Int) |||
  BitVec.ofInt 64
  (IntKind.wrap IntKind.u64
  (U8.v
  (List.getD b (k + 1 + 0 + 0)
  Enc.dflt))))))) ==
  (3 : Int))
  (need (Nat.ble (List.length l + 1) 1000000)
  (need (true && Nat.ble (0 + List.length l) (List.length l))
  (onP N AX.normal
  (shpTkB b l c cl n
  (IntKind.wrap IntKind.i64
  (IntKind.wrap IntKind.u64
  (Int.ofNat
  (BitVec.toNat
  (BitVec.ofInt 64 (0 : Int) |||
  BitVec.ofInt 64
  (IntKind.wrap IntKind.u64
  (U8.v
  (List.getD b (k + 0 + 0) Enc.dflt))))))))
  (IntKind.wrap IntKind.i64
  (IntKind.wrap IntKind.u64
  (Int.ofNat
  (BitVec.toNat
  (BitVec.ofInt 64 (0 : Int) |||
  BitVec.ofInt 64
  (IntKind.wrap IntKind.u64
  (U8.v
  (List.getD b (k + 1 + 0 + 0)
  Enc.dflt))))))))
  (0 : Int) (0 : Int)
  (IntKind.wrap IntKind.i64
  (IntKind.wrap IntKind.u64
  (Int.ofNat
  (BitVec.toNat
  (BitVec.ofInt 64 (0 : Int) |||
  BitVec.ofInt 64
  (IntKind.wrap IntKind.u64
  (U8.v
  (List.getD b (k + 1 + 0 + 0)
  Enc.dflt))))))))
  (0 : Int) 0))))
  (need (Nat.ble (List.length l + 1) 1000000)
  (need (true && Nat.ble (0 + List.length l) (List.length l))
  (onP N AX.normal
  (shpTkB b l c cl n
  (IntKind.wrap IntKind.i64
  (IntKind.wrap IntKind.u64
  (Int.ofNat
  (BitVec.toNat
  (BitVec.ofInt 64 (0 : Int) |||
  BitVec.ofInt 64
  (IntKind.wrap IntKind.u64
  (U8.v
  (List.getD b (k + 0 + 0) Enc.dflt))))))))
  (IntKind.wrap IntKind.i64
  (IntKind.wrap IntKind.u64
  (Int.ofNat
  (BitVec.toNat
  (BitVec.ofInt 64 (0 : Int) |||
  BitVec.ofInt 64
  (IntKind.wrap IntKind.u64
  (U8.v
  (List.getD b (k + 1 + 0 + 0)
  Enc.dflt))))))))
  (0 : Int) (0 : Int)
  (IntKind.wrap IntKind.i64
  (IntKind.wrap IntKind.u64
  (Int.ofNat
  (BitVec.toNat
  (BitVec.ofInt 64 (0 : Int) |||
  BitVec.ofInt 64
  (IntKind.wrap IntKind.u64
  (U8.v
  (List.getD b (k + 1 + 0 + 0)
  Enc.dflt))))))))
  (0 : Int) 0)))))))
  (br
  (IntKind.wrap IntKind.i64
  (IntKind.wrap IntKind.u64
  (Int.ofNat
  (BitVec.toNat
  (BitVec.ofInt 64 (0 : Int) |||
  BitVec.ofInt 64
  (IntKind.wrap IntKind.u64
  (U8.v
  (List.getD b (k + 1 + 0 + 0)
  Enc.dflt))))))) ==
  (5 : Int))
  (need (Nat.ble (List.length l + 1) 1000000)
  (need (true && Nat.ble (0 + List.length l) (List.length l))
  (onP N AX.normal
  (shpTkB b l c cl n
  (IntKind.wrap IntKind.i64
  (IntKind.wrap IntKind.u64
  (Int.ofNat
  (BitVec.toNat
  (BitVec.ofInt 64 (0 : Int) |||
  BitVec.ofInt 64
  (IntKind.wrap IntKind.u64
  (U8.v (List.getD b (k + 0 + 0) Enc.dflt))))))))
  (IntKind.wrap IntKind.i64
  (IntKind.wrap IntKind.u64
  (Int.ofNat
  (BitVec.toNat
  (BitVec.ofInt 64 (0 : Int) |||
  BitVec.ofInt 64
  (IntKind.wrap IntKind.u64
  (U8.v
  (List.getD b (k + 1 + 0 + 0)
  Enc.dflt))))))))
  (0 : Int) (0 : Int)
  (IntKind.wrap IntKind.i64
  (IntKind.wrap IntKind.u64
  (Int.ofNat
  (BitVec.toNat
  (BitVec.ofInt 64 (0 : Int) |||
  BitVec.ofInt 64
  (IntKind.wrap IntKind.u64
  (U8.v
  (List.getD b (k + 1 + 0 + 0)
  Enc.dflt))))))))
  (0 : Int) 0))))
  (br
  (IntKind.wrap IntKind.i64
  (IntKind.wrap IntKind.u64
  (Int.ofNat
  (BitVec.toNat
  (BitVec.ofInt 64 (0 : Int) |||
  BitVec.ofInt 64
  (IntKind.wrap IntKind.u64
  (U8.v
  (List.getD b (k + 1 + 0 + 0)
  Enc.dflt))))))) ==
  (2 : Int))
  (need (Nat.ble (List.length l + 1) 1000000)
  (need (true && Nat.ble (0 + List.length l) (List.length l))
  (onP N AX.normal
  (shpTkB b l c cl n
  (IntKind.wrap IntKind.i64
  (IntKind.wrap IntKind.u64
  (Int.ofNat
  (BitVec.toNat
  (BitVec.ofInt 64 (0 : Int) |||
  BitVec.ofInt 64
  (IntKind.wrap IntKind.u64
  (U8.v
  (List.getD b (k + 0 + 0) Enc.dflt))))))))
  (IntKind.wrap IntKind.i64
  (IntKind.wrap IntKind.u64
  (Int.ofNat
  (BitVec.toNat
  (BitVec.ofInt 64 (0 : Int) |||
  BitVec.ofInt 64
  (IntKind.wrap IntKind.u64
  (U8.v
  (List.getD b (k + 1 + 0 + 0)
  Enc.dflt))))))))
  (0 : Int) (0 : Int)
  (IntKind.wrap IntKind.i64
  (IntKind.wrap IntKind.u64
  (Int.ofNat
  (BitVec.toNat
  (BitVec.ofInt 64 (0 : Int) |||
  BitVec.ofInt 64
  (IntKind.wrap IntKind.u64
  (U8.v
  (List.getD b (k + 1 + 0 + 0)
  Enc.dflt))))))))
  (0 : Int) 0))))
  (br
  (IntKind.wrap IntKind.i64
  (IntKind.wrap IntKind.u64
  (Int.ofNat
  (BitVec.toNat
  (BitVec.ofInt 64 (0 : Int) |||
  BitVec.ofInt 64
  (IntKind.wrap IntKind.u64
  (U8.v
  (List.getD b (k + 1 + 0 + 0)
  Enc.dflt))))))) ==
  (3 : Int))
  (need (Nat.ble (List.length l + 1) 1000000)
  (need (true && Nat.ble (0 + List.length l) (List.length l))
  (onP N AX.normal
  (shpTkB b l c cl n
  (IntKind.wrap IntKind.i64
  (IntKind.wrap IntKind.u64
  (Int.ofNat
  (BitVec.toNat
  (BitVec.ofInt 64 (0 : Int) |||
  BitVec.ofInt 64
  (IntKind.wrap IntKind.u64
  (U8.v
  (List.getD b (k + 0 + 0) Enc.dflt))))))))
  (IntKind.wrap IntKind.i64
  (IntKind.wrap IntKind.u64
  (Int.ofNat
  (BitVec.toNat
  (BitVec.ofInt 64 (0 : Int) |||
  BitVec.ofInt 64
  (IntKind.wrap IntKind.u64
  (U8.v
  (List.getD b (k + 1 + 0 + 0)
  Enc.dflt))))))))
  (0 : Int) (0 : Int)
  (IntKind.wrap IntKind.i64
  (IntKind.wrap IntKind.u64
  (Int.ofNat
  (BitVec.toNat
  (BitVec.ofInt 64 (0 : Int) |||
  BitVec.ofInt 64
  (IntKind.wrap IntKind.u64
  (U8.v
  (List.getD b (k + 1 + 0 + 0)
  Enc.dflt))))))))
  (0 : Int) 0))))
  (need (Nat.ble (List.length l + 1) 1000000)
  (need (true && Nat.ble (0 + List.length l) (List.length l))
  (onP N AX.normal
  (shpTkB b l c cl n
  (IntKind.wrap IntKind.i64
  (IntKind.wrap IntKind.u64
  (Int.ofNat
  (BitVec.toNat
  (BitVec.ofInt 64 (0 : Int) |||
  BitVec.ofInt 64
  (IntKind.wrap IntKind.u64
  (U8.v
  (List.getD b (k + 0 + 0) Enc.dflt))))))))
  (IntKind.wrap IntKind.i64
  (IntKind.wrap IntKind.u64
  (Int.ofNat
  (BitVec.toNat
  (BitVec.ofInt 64 (0 : Int) |||
  BitVec.ofInt 64
  (IntKind.wrap IntKind.u64
  (U8.v
  (List.getD b (k + 1 + 0 + 0)
  Enc.dflt))))))))
  (0 : Int) (0 : Int)
  (IntKind.wrap IntKind.i64
  (IntKind.wrap IntKind.u64
  (Int.ofNat
  (BitVec.toNat
  (BitVec.ofInt 64 (0 : Int) |||
  BitVec.ofInt 64
  (IntKind.wrap IntKind.u64
  (U8.v
  (List.getD b (k + 1 + 0 + 0)
  Enc.dflt))))))))
  (0 : Int) 0))))))))))))
  (need (Nat.ble (List.length l + 1) 1000000)
  (need (true && Nat.ble (0 + List.length l) (List.length l))
  (onP N AX.normal
  (shpTkB b l c cl n
  (IntKind.wrap IntKind.i64
  (IntKind.wrap IntKind.u64
  (Int.ofNat
  (BitVec.toNat
  (BitVec.ofInt 64 (0 : Int) |||
  BitVec.ofInt 64
  (IntKind.wrap IntKind.u64
  (U8.v (List.getD b (k + 0 + 0) Enc.dflt))))))))
  (IntKind.wrap IntKind.i64
  (IntKind.wrap IntKind.u64
  (Int.ofNat
  (BitVec.toNat
  (BitVec.ofInt 64 (0 : Int) |||
  BitVec.ofInt 64
  (IntKind.wrap IntKind.u64
  (U8.v (List.getD b (k + 1 + 0 + 0) Enc.dflt))))))))
  (0 : Int) (0 : Int) (0 : Int) (0 : Int) 0)))))
  (need (Nat.ble 2 (m - 1 - 1))
  (need
  (Nat.ble 0 (k + 1 + 1 + 0 + 0) &&
  Nat.blt (k + 1 + 1 + 0 + 0) (List.length b))
  (need
  (Nat.ble 0 (k + 1 + 1 + 0 + 1) &&
  Nat.blt (k + 1 + 1 + 0 + 1) (List.length b))
  (need (Nat.ble 2 (m - 1 - 1))
  (br (decide ((1 : Int) > Int.ofNat (m - 1 - 1 - 2)))
  (br
  (IntKind.wrap IntKind.i64
  (IntKind.wrap IntKind.u64
  (Int.ofNat
  (BitVec.toNat
  (BitVec.ofInt 64 (0 : Int) |||
  BitVec.ofInt 64
  (IntKind.wrap IntKind.u64
  (U8.v (List.getD b (k + 0 + 0) Enc.dflt))))))) ==
  (1 : Int))
  (br
  (IntKind.wrap IntKind.i64
  (IntKind.wrap IntKind.u64
  (Int.ofNat
  (BitVec.toNat
  (BitVec.ofInt 64 (0 : Int) |||
  BitVec.ofInt 64
  (IntKind.wrap IntKind.u64
  (U8.v
  (List.getD b (k + 1 + 0 + 0)
  Enc.dflt))))))) ==
  (1 : Int))
  (br
  (IntKind.wrap IntKind.i64
  (IntKind.wrap IntKind.u64
  (Int.ofNat
  (BitVec.toNat
  (BitVec.ofInt 64 (0 : Int) |||
  BitVec.ofInt 64
  (IntKind.wrap IntKind.u64
  (U8.v
  (List.getD b (k + 1 + 0 + 0)
  Enc.dflt))))))) ==
  (5 : Int))
  (need (Nat.ble (List.length l + 1) 1000000)
  (need (true && Nat.ble (0 + List.length l) (List.length l))
  (onP N AX.normal
  (shpTkB b l c cl n
  (IntKind.wrap IntKind.i64
  (IntKind.wrap IntKind.u64
  (Int.ofNat
  (BitVec.toNat
  (BitVec.ofInt 64 (0 : Int) |||
  BitVec.ofInt 64
  (IntKind.wrap IntKind.u64
  (U8.v
  (List.getD b (k + 0 + 0) Enc.dflt))))))))
  (IntKind.wrap IntKind.i64
  (IntKind.wrap IntKind.u64
  (Int.ofNat
  (BitVec.toNat
  (BitVec.ofInt 64 (0 : Int) |||
  BitVec.ofInt 64
  (IntKind.wrap IntKind.u64
  (U8.v
  (List.getD b (k + 1 + 0 + 0)
  Enc.dflt))))))))
  (IntKind.wrap IntKind.i64
  (IntKind.wrap IntKind.u64
  (Int.ofNat
  (BitVec.toNat
  (BitVec.ofInt 64
  (IntKind.wrap IntKind.u64
  (IntKind.wrap IntKind.u64
  (Int.ofNat
  (BitVec.toNat
  (BitVec.ofInt 64 (0 : Int) |||
  BitVec.ofInt 64
  (IntKind.wrap IntKind.u64
  (U8.v
  (List.getD b
  (k + 1 + 1 + 0 +
  0)
  Enc.dflt)))))) *
  (256 : Int))) |||
  BitVec.ofInt 64
  (IntKind.wrap IntKind.u64
  (U8.v
  (List.getD b
  (k + 1 + 1 + 0 + 1)
  Enc.dflt))))))))
  (0 : Int)
  (IntKind.wrap IntKind.i64
  (IntKind.wrap IntKind.u64
  (Int.ofNat
  (BitVec.toNat
  (BitVec.ofInt 64 (0 : Int) |||
  BitVec.ofInt 64
  (IntKind.wrap IntKind.u64
  (U8.v
  (List.getD b (k + 1 + 0 + 0)
  Enc.dflt))))))))
  (0 : Int) 0))))
  (br
  (IntKind.wrap IntKind.i64
  (IntKind.wrap IntKind.u64
  (Int.ofNat
  (BitVec.toNat
  (BitVec.ofInt 64 (0 : Int) |||
  BitVec.ofInt 64
  (IntKind.wrap IntKind.u64
  (U8.v
  (List.getD b (k + 1 + 0 + 0)
  Enc.dflt))))))) ==
  (2 : Int))
  (need (Nat.ble (List.length l + 1) 1000000)
  (need (true && Nat.ble (0 + List.length l) (List.length l))
  (onP N AX.normal
  (shpTkB b l c cl n
  (IntKind.wrap IntKind.i64
  (IntKind.wrap IntKind.u64
  (Int.ofNat
  (BitVec.toNat
  (BitVec.ofInt 64 (0 : Int) |||
  BitVec.ofInt 64
  (IntKind.wrap IntKind.u64
  (U8.v
  (List.getD b (k + 0 + 0) Enc.dflt))))))))
  (IntKind.wrap IntKind.i64
  (IntKind.wrap IntKind.u64
  (Int.ofNat
  (BitVec.toNat
  (BitVec.ofInt 64 (0 : Int) |||
  BitVec.ofInt 64
  (IntKind.wrap IntKind.u64
  (U8.v
  (List.getD b (k + 1 + 0 + 0)
  Enc.dflt))))))))
  (IntKind.wrap IntKind.i64
  (IntKind.wrap IntKind.u64
  (Int.ofNat
  (BitVec.toNat
  (BitVec.ofInt 64
  (IntKind.wrap IntKind.u64
  (IntKind.wrap IntKind.u64
  (Int.ofNat
  (BitVec.toNat
  (BitVec.ofInt 64 (0 : Int) |||
  BitVec.ofInt 64
  (IntKind.wrap IntKind.u64
  (U8.v
  (List.getD b
  (k + 1 + 1 + 0 +
  0)
  Enc.dflt)))))) *
  (256 : Int))) |||
  BitVec.ofInt 64
  (IntKind.wrap IntKind.u64
  (U8.v
  (List.getD b
  (k + 1 + 1 + 0 + 1)
  Enc.dflt))))))))
  (0 : Int)
  (IntKind.wrap IntKind.i64
  (IntKind.wrap IntKind.u64
  (Int.ofNat
  (BitVec.toNat
  (BitVec.ofInt 64 (0 : Int) |||
  BitVec.ofInt 64
  (IntKind.wrap IntKind.u64
  (U8.v
  (List.getD b (k + 1 + 0 + 0)
  Enc.dflt))))))))
  (0 : Int) 0))))
  (br
  (IntKind.wrap IntKind.i64
  (IntKind.wrap IntKind.u64
  (Int.ofNat
  (BitVec.toNat
  (BitVec.ofInt 64 (0 : Int) |||
  BitVec.ofInt 64
  (IntKind.wrap IntKind.u64
  (U8.v
  (List.getD b (k + 1 + 0 + 0)
  Enc.dflt))))))) ==
  (3 : Int))
  (need (Nat.ble (List.length l + 1) 1000000)
  (need (true && Nat.ble (0 + List.length l) (List.length l))
  (onP N AX.normal
  (shpTkB b l c cl n
  (IntKind.wrap IntKind.i64
  (IntKind.wrap IntKind.u64
  (Int.ofNat
  (BitVec.toNat
  (BitVec.ofInt 64 (0 : Int) |||
  BitVec.ofInt 64
  (IntKind.wrap IntKind.u64
  (U8.v
  (List.getD b (k + 0 + 0)
  Enc.dflt))))))))
  (IntKind.wrap IntKind.i64
  (IntKind.wrap IntKind.u64
  (Int.ofNat
  (BitVec.toNat
  (BitVec.ofInt 64 (0 : Int) |||
  BitVec.ofInt 64
  (IntKind.wrap IntKind.u64
  (U8.v
  (List.getD b (k + 1 + 0 + 0)
  Enc.dflt))))))))
  (IntKind.wrap IntKind.i64
  (IntKind.wrap IntKind.u64
  (Int.ofNat
  (BitVec.toNat
  (BitVec.ofInt 64
  (IntKind.wrap IntKind.u64
  (IntKind.wrap IntKind.u64
  (Int.ofNat
  (BitVec.toNat
  (BitVec.ofInt 64 (0 : Int) |||
  BitVec.ofInt 64
  (IntKind.wrap IntKind.u64
  (U8.v
  (List.getD b
  (k + 1 + 1 + 0 +
  0)
  Enc.dflt)))))) *
  (256 : Int))) |||
  BitVec.ofInt 64
  (IntKind.wrap IntKind.u64
  (U8.v
  (List.getD b
  (k + 1 + 1 + 0 + 1)
  Enc.dflt))))))))
  (0 : Int)
  (IntKind.wrap IntKind.i64
  (IntKind.wrap IntKind.u64
  (Int.ofNat
  (BitVec.toNat
  (BitVec.ofInt 64 (0 : Int) |||
  BitVec.ofInt 64
  (IntKind.wrap IntKind.u64
  (U8.v
  (List.getD b (k + 1 + 0 + 0)
  Enc.dflt))))))))
  (0 : Int) 0))))
  (need (Nat.ble (List.length l + 1) 1000000)
  (need (true && Nat.ble (0 + List.length l) (List.length l))
  (onP N AX.normal
  (shpTkB b l c cl n
  (IntKind.wrap IntKind.i64
  (IntKind.wrap IntKind.u64
  (Int.ofNat
  (BitVec.toNat
  (BitVec.ofInt 64 (0 : Int) |||
  BitVec.ofInt 64
  (IntKind.wrap IntKind.u64
  (U8.v
  (List.getD b (k + 0 + 0)
  Enc.dflt))))))))
  (IntKind.wrap IntKind.i64
  (IntKind.wrap IntKind.u64
  (Int.ofNat
  (BitVec.toNat
  (BitVec.ofInt 64 (0 : Int) |||
  BitVec.ofInt 64
  (IntKind.wrap IntKind.u64
  (U8.v
  (List.getD b (k + 1 + 0 + 0)
  Enc.dflt))))))))
  (IntKind.wrap IntKind.i64
  (IntKind.wrap IntKind.u64
  (Int.ofNat
  (BitVec.toNat
  (BitVec.ofInt 64
  (IntKind.wrap IntKind.u64
  (IntKind.wrap IntKind.u64
  (Int.ofNat
  (BitVec.toNat
  (BitVec.ofInt 64 (0 : Int) |||
  BitVec.ofInt 64
  (IntKind.wrap IntKind.u64
  (U8.v
  (List.getD b
  (k + 1 + 1 + 0 +
  0)
  Enc.dflt)))))) *
  (256 : Int))) |||
  BitVec.ofInt 64
  (IntKind.wrap IntKind.u64
  (U8.v
  (List.getD b
  (k + 1 + 1 + 0 + 1)
  Enc.dflt))))))))
  (0 : Int)
  (IntKind.wrap IntKind.i64
  (IntKind.wrap IntKind.u64
  (Int.ofNat
  (BitVec.toNat
  (BitVec.ofInt 64 (0 : Int) |||
  BitVec.ofInt 64
  (IntKind.wrap IntKind.u64
  (U8.v
  (List.getD b (k + 1 + 0 + 0)
  Enc.dflt))))))))
  (0 : Int) 0)))))))
  (br
  (IntKind.wrap IntKind.i64
  (IntKind.wrap IntKind.u64
  (Int.ofNat
  (BitVec.toNat
  (BitVec.ofInt 64 (0 : Int) |||
  BitVec.ofInt 64
  (IntKind.wrap IntKind.u64
  (U8.v
  (List.getD b (k + 1 + 0 + 0)
  Enc.dflt))))))) ==
  (2 : Int))
  (br
  (IntKind.wrap IntKind.i64
  (IntKind.wrap IntKind.u64
  (Int.ofNat
  (BitVec.toNat
  (BitVec.ofInt 64 (0 : Int) |||
  BitVec.ofInt 64
  (IntKind.wrap IntKind.u64
  (U8.v
  (List.getD b (k + 1 + 0 + 0)
  Enc.dflt))))))) ==
  (5 : Int))
  (need (Nat.ble (List.length l + 1) 1000000)
  (need (true && Nat.ble (0 + List.length l) (List.length l))
  (onP N AX.normal
  (shpTkB b l c cl n
  (IntKind.wrap IntKind.i64
  (IntKind.wrap IntKind.u64
  (Int.ofNat
  (BitVec.toNat
  (BitVec.ofInt 64 (0 : Int) |||
  BitVec.ofInt 64
  (IntKind.wrap IntKind.u64
  (U8.v
  (List.getD b (k + 0 + 0) Enc.dflt))))))))
  (IntKind.wrap IntKind.i64
  (IntKind.wrap IntKind.u64
  (Int.ofNat
  (BitVec.toNat
  (BitVec.ofInt 64 (0 : Int) |||
  BitVec.ofInt 64
  (IntKind.wrap IntKind.u64
  (U8.v
  (List.getD b (k + 1 + 0 + 0)
  Enc.dflt))))))))
  (IntKind.wrap IntKind.i64
  (IntKind.wrap IntKind.u64
  (Int.ofNat
  (BitVec.toNat
  (BitVec.ofInt 64
  (IntKind.wrap IntKind.u64
  (IntKind.wrap IntKind.u64
  (Int.ofNat
  (BitVec.toNat
  (BitVec.ofInt 64 (0 : Int) |||
  BitVec.ofInt 64
  (IntKind.wrap IntKind.u64
  (U8.v
  (List.getD b
  (k + 1 + 1 + 0 +
  0)
  Enc.dflt)))))) *
  (256 : Int))) |||
  BitVec.ofInt 64
  (IntKind.wrap IntKind.u64
  (U8.v
  (List.getD b
  (k + 1 + 1 + 0 + 1)
  Enc.dflt))))))))
  (0 : Int)
  (IntKind.wrap IntKind.i64
  (IntKind.wrap IntKind.u64
  (Int.ofNat
  (BitVec.toNat
  (BitVec.ofInt 64 (0 : Int) |||
  BitVec.ofInt 64
  (IntKind.wrap IntKind.u64
  (U8.v
  (List.getD b (k + 1 + 0 + 0)
  Enc.dflt))))))))
  (0 : Int) 0))))
  (br
  (IntKind.wrap IntKind.i64
  (IntKind.wrap IntKind.u64
  (Int.ofNat
  (BitVec.toNat
  (BitVec.ofInt 64 (0 : Int) |||
  BitVec.ofInt 64
  (IntKind.wrap IntKind.u64
  (U8.v
  (List.getD b (k + 1 + 0 + 0)
  Enc.dflt))))))) ==
  (2 : Int))
  (need (Nat.ble (List.length l + 1) 1000000)
  (need (true && Nat.ble (0 + List.length l) (List.length l))
  (onP N AX.normal
  (shpTkB b l c cl n
  (IntKind.wrap IntKind.i64
  (IntKind.wrap IntKind.u64
  (Int.ofNat
  (BitVec.toNat
  (BitVec.ofInt 64 (0 : Int) |||
  BitVec.ofInt 64
  (IntKind.wrap IntKind.u64
  (U8.v
  (List.getD b (k + 0 + 0)
  Enc.dflt))))))))
  (IntKind.wrap IntKind.i64
  (IntKind.wrap IntKind.u64
  (Int.ofNat
  (BitVec.toNat
  (BitVec.ofInt 64 (0 : Int) |||
  BitVec.ofInt 64
  (IntKind.wrap IntKind.u64
  (U8.v
  (List.getD b (k + 1 + 0 + 0)
  Enc.dflt))))))))
  (IntKind.wrap IntKind.i64
  (IntKind.wrap IntKind.u64
  (Int.ofNat
  (BitVec.toNat
  (BitVec.ofInt 64
  (IntKind.wrap IntKind.u64
  (IntKind.wrap IntKind.u64
  (Int.ofNat
  (BitVec.toNat
  (BitVec.ofInt 64 (0 : Int) |||
  BitVec.ofInt 64
  (IntKind.wrap IntKind.u64
  (U8.v
  (List.getD b
  (k + 1 + 1 + 0 +
  0)
  Enc.dflt)))))) *
  (256 : Int))) |||
  BitVec.ofInt 64
  (IntKind.wrap IntKind.u64
  (U8.v
  (List.getD b
  (k + 1 + 1 + 0 + 1)
  Enc.dflt))))))))
  (0 : Int)
  (IntKind.wrap IntKind.i64
  (IntKind.wrap IntKind.u64
  (Int.ofNat
  (BitVec.toNat
  (BitVec.ofInt 64 (0 : Int) |||
  BitVec.ofInt 64
  (IntKind.wrap IntKind.u64
  (U8.v
  (List.getD b (k + 1 + 0 + 0)
  Enc.dflt))))))))
  (0 : Int) 0))))
  (br
  (IntKind.wrap IntKind.i64
  (IntKind.wrap IntKind.u64
  (Int.ofNat
  (BitVec.toNat
  (BitVec.ofInt 64 (0 : Int) |||
  BitVec.ofInt 64
  (IntKind.wrap IntKind.u64
  (U8.v
  (List.getD b (k + 1 + 0 + 0)
  Enc.dflt))))))) ==
  (3 : Int))
  (need (Nat.ble (List.length l + 1) 1000000)
  (need (true && Nat.ble (0 + List.length l) (List.length l))
  (onP N AX.normal
  (shpTkB b l c cl n
  (IntKind.wrap IntKind.i64
  (IntKind.wrap IntKind.u64
  (Int.ofNat
  (BitVec.toNat
  (BitVec.ofInt 64 (0 : Int) |||
  BitVec.ofInt 64
  (IntKind.wrap IntKind.u64
  (U8.v
  (List.getD b (k + 0 + 0)
  Enc.dflt))))))))
  (IntKind.wrap IntKind.i64
  (IntKind.wrap IntKind.u64
  (Int.ofNat
  (BitVec.toNat
  (BitVec.ofInt 64 (0 : Int) |||
  BitVec.ofInt 64
  (IntKind.wrap IntKind.u64
  (U8.v
  (List.getD b (k + 1 + 0 + 0)
  Enc.dflt))))))))
  (IntKind.wrap IntKind.i64
  (IntKind.wrap IntKind.u64
  (Int.ofNat
  (BitVec.toNat
  (BitVec.ofInt 64
  (IntKind.wrap IntKind.u64
  (IntKind.wrap IntKind.u64
  (Int.ofNat
  (BitVec.toNat
  (BitVec.ofInt 64 (0 : Int) |||
  BitVec.ofInt 64
  (IntKind.wrap IntKind.u64
  (U8.v
  (List.getD b
  (k + 1 + 1 +
  0 +
  0)
  Enc.dflt)))))) *
  (256 : Int))) |||
  BitVec.ofInt 64
  (IntKind.wrap IntKind.u64
  (U8.v
  (List.getD b
  (k + 1 + 1 + 0 + 1)
  Enc.dflt))))))))
  (0 : Int)
  (IntKind.wrap IntKind.i64
  (IntKind.wrap IntKind.u64
  (Int.ofNat
  (BitVec.toNat
  (BitVec.ofInt 64 (0 : Int) |||
  BitVec.ofInt 64
  (IntKind.wrap IntKind.u64
  (U8.v
  (List.getD b (k + 1 + 0 + 0)
  Enc.dflt))))))))
  (0 : Int) 0))))
  (need (Nat.ble (List.length l + 1) 1000000)
  (need (true && Nat.ble (0 + List.length l) (List.length l))
  (onP N AX.normal
  (shpTkB b l c cl n
  (IntKind.wrap IntKind.i64
  (IntKind.wrap IntKind.u64
  (Int.ofNat
  (BitVec.toNat
  (BitVec.ofInt 64 (0 : Int) |||
  BitVec.ofInt 64
  (IntKind.wrap IntKind.u64
  (U8.v
  (List.getD b (k + 0 + 0)
  Enc.dflt))))))))
  (IntKind.wrap IntKind.i64
  (IntKind.wrap IntKind.u64
  (Int.ofNat
  (BitVec.toNat
  (BitVec.ofInt 64 (0 : Int) |||
  BitVec.ofInt 64
  (IntKind.wrap IntKind.u64
  (U8.v
  (List.getD b (k + 1 + 0 + 0)
  Enc.dflt))))))))
  (IntKind.wrap IntKind.i64
  (IntKind.wrap IntKind.u64
  (Int.ofNat
  (BitVec.toNat
  (BitVec.ofInt 64
  (IntKind.wrap IntKind.u64
  (IntKind.wrap IntKind.u64
  (Int.ofNat
  (BitVec.toNat
  (BitVec.ofInt 64 (0 : Int) |||
  BitVec.ofInt 64
  (IntKind.wrap IntKind.u64
  (U8.v
  (List.getD b
  (k + 1 + 1 +
  0 +
  0)
  Enc.dflt)))))) *
  (256 : Int))) |||
  BitVec.ofInt 64
  (IntKind.wrap IntKind.u64
  (U8.v
  (List.getD b
  (k + 1 + 1 + 0 + 1)
  Enc.dflt))))))))
  (0 : Int)
  (IntKind.wrap IntKind.i64
  (IntKind.wrap IntKind.u64
  (Int.ofNat
  (BitVec.toNat
  (BitVec.ofInt 64 (0 : Int) |||
  BitVec.ofInt 64
  (IntKind.wrap IntKind.u64
  (U8.v
  (List.getD b (k + 1 + 0 + 0)
  Enc.dflt))))))))
  (0 : Int) 0)))))))
  (br
  (IntKind.wrap IntKind.i64
  (IntKind.wrap IntKind.u64
  (Int.ofNat
  (BitVec.toNat
  (BitVec.ofInt 64 (0 : Int) |||
  BitVec.ofInt 64
  (IntKind.wrap IntKind.u64
  (U8.v
  (List.getD b (k + 1 + 0 + 0)
  Enc.dflt))))))) ==
  (3 : Int))
  (br
  (IntKind.wrap IntKind.i64
  (IntKind.wrap IntKind.u64
  (Int.ofNat
  (BitVec.toNat
  (BitVec.ofInt 64 (0 : Int) |||
  BitVec.ofInt 64
  (IntKind.wrap IntKind.u64
  (U8.v
  (List.getD b (k + 1 + 0 + 0)
  Enc.dflt))))))) ==
  (5 : Int))
  (need (Nat.ble (List.length l + 1) 1000000)
  (need (true && Nat.ble (0 + List.length l) (List.length l))
  (onP N AX.normal
  (shpTkB b l c cl n
  (IntKind.wrap IntKind.i64
  (IntKind.wrap IntKind.u64
  (Int.ofNat
  (BitVec.toNat
  (BitVec.ofInt 64 (0 : Int) |||
  BitVec.ofInt 64
  (IntKind.wrap IntKind.u64
  (U8.v
  (List.getD b (k + 0 + 0)
  Enc.dflt))))))))
  (IntKind.wrap IntKind.i64
  (IntKind.wrap IntKind.u64
  (Int.ofNat
  (BitVec.toNat
  (BitVec.ofInt 64 (0 : Int) |||
  BitVec.ofInt 64
  (IntKind.wrap IntKind.u64
  (U8.v
  (List.getD b (k + 1 + 0 + 0)
  Enc.dflt))))))))
  (IntKind.wrap IntKind.i64
  (IntKind.wrap IntKind.u64
  (Int.ofNat
  (BitVec.toNat
  (BitVec.ofInt 64
  (IntKind.wrap IntKind.u64
  (IntKind.wrap IntKind.u64
  (Int.ofNat
  (BitVec.toNat
  (BitVec.ofInt 64 (0 : Int) |||
  BitVec.ofInt 64
  (IntKind.wrap IntKind.u64
  (U8.v
  (List.getD b
  (k + 1 + 1 + 0 +
  0)
  Enc.dflt)))))) *
  (256 : Int))) |||
  BitVec.ofInt 64
  (IntKind.wrap IntKind.u64
  (U8.v
  (List.getD b
  (k + 1 + 1 + 0 + 1)
  Enc.dflt))))))))
  (0 : Int)
  (IntKind.wrap IntKind.i64
  (IntKind.wrap IntKind.u64
  (Int.ofNat
  (BitVec.toNat
  (BitVec.ofInt 64 (0 : Int) |||
  BitVec.ofInt 64
  (IntKind.wrap IntKind.u64
  (U8.v
  (List.getD b (k + 1 + 0 + 0)
  Enc.dflt))))))))
  (0 : Int) 0))))
  (br
  (IntKind.wrap IntKind.i64
  (IntKind.wrap IntKind.u64
  (Int.ofNat
  (BitVec.toNat
  (BitVec.ofInt 64 (0 : Int) |||
  BitVec.ofInt 64
  (IntKind.wrap IntKind.u64
  (U8.v
  (List.getD b (k + 1 + 0 + 0)
  Enc.dflt))))))) ==
  (2 : Int))
  (need (Nat.ble (List.length l + 1) 1000000)
  (need (true && Nat.ble (0 + List.length l) (List.length l))
  (onP N AX.normal
  (shpTkB b l c cl n
  (IntKind.wrap IntKind.i64
  (IntKind.wrap IntKind.u64
  (Int.ofNat
  (BitVec.toNat
  (BitVec.ofInt 64 (0 : Int) |||
  BitVec.ofInt 64
  (IntKind.wrap IntKind.u64
  (U8.v
  (List.getD b (k + 0 + 0)
  Enc.dflt))))))))
  (IntKind.wrap IntKind.i64
  (IntKind.wrap IntKind.u64
  (Int.ofNat
  (BitVec.toNat
  (BitVec.ofInt 64 (0 : Int) |||
  BitVec.ofInt 64
  (IntKind.wrap IntKind.u64
  (U8.v
  (List.getD b (k + 1 + 0 + 0)
  Enc.dflt))))))))
  (IntKind.wrap IntKind.i64
  (IntKind.wrap IntKind.u64
  (Int.ofNat
  (BitVec.toNat
  (BitVec.ofInt 64
  (IntKind.wrap IntKind.u64
  (IntKind.wrap IntKind.u64
  (Int.ofNat
  (BitVec.toNat
  (BitVec.ofInt 64 (0 : Int) |||
  BitVec.ofInt 64
  (IntKind.wrap IntKind.u64
  (U8.v
  (List.getD b
  (k + 1 + 1 +
  0 +
  0)
  Enc.dflt)))))) *
  (256 : Int))) |||
  BitVec.ofInt 64
  (IntKind.wrap IntKind.u64
  (U8.v
  (List.getD b
  (k + 1 + 1 + 0 + 1)
  Enc.dflt))))))))
  (0 : Int)
  (IntKind.wrap IntKind.i64
  (IntKind.wrap IntKind.u64
  (Int.ofNat
  (BitVec.toNat
  (BitVec.ofInt 64 (0 : Int) |||
  BitVec.ofInt 64
  (IntKind.wrap IntKind.u64
  (U8.v
  (List.getD b (k + 1 + 0 + 0)
  Enc.dflt))))))))
  (0 : Int) 0))))
  (br
  (IntKind.wrap IntKind.i64
  (IntKind.wrap IntKind.u64
  (Int.ofNat
  (BitVec.toNat
  (BitVec.ofInt 64 (0 : Int) |||
  BitVec.ofInt 64
  (IntKind.wrap IntKind.u64
  (U8.v
  (List.getD b (k + 1 + 0 + 0)
  Enc.dflt))))))) ==
  (3 : Int))
  (need (Nat.ble (List.length l + 1) 1000000)
  (need (true && Nat.ble (0 + List.length l) (List.length l))
  (onP N AX.normal
  (shpTkB b l c cl n
  (IntKind.wrap IntKind.i64
  (IntKind.wrap IntKind.u64
  (Int.ofNat
  (BitVec.toNat
  (BitVec.ofInt 64 (0 : Int) |||
  BitVec.ofInt 64
  (IntKind.wrap IntKind.u64
  (U8.v
  (List.getD b (k + 0 + 0)
  Enc.dflt))))))))
  (IntKind.wrap IntKind.i64
  (IntKind.wrap IntKind.u64
  (Int.ofNat
  (BitVec.toNat
  (BitVec.ofInt 64 (0 : Int) |||
  BitVec.ofInt 64
  (IntKind.wrap IntKind.u64
  (U8.v
  (List.getD b (k + 1 + 0 + 0)
  Enc.dflt))))))))
  (IntKind.wrap IntKind.i64
  (IntKind.wrap IntKind.u64
  (Int.ofNat
  (BitVec.toNat
  (BitVec.ofInt 64
  (IntKind.wrap IntKind.u64
  (IntKind.wrap IntKind.u64
  (Int.ofNat
  (BitVec.toNat
  (BitVec.ofInt 64 (0 : Int) |||
  BitVec.ofInt 64
  (IntKind.wrap IntKind.u64
  (U8.v
  (List.getD b
  (k + 1 + 1 +
  0 +
  0)
  Enc.dflt)))))) *
  (256 : Int))) |||
  BitVec.ofInt 64
  (IntKind.wrap IntKind.u64
  (U8.v
  (List.getD b
  (k + 1 + 1 + 0 +
  1)
  Enc.dflt))))))))
  (0 : Int)
  (IntKind.wrap IntKind.i64
  (IntKind.wrap IntKind.u64
  (Int.ofNat
  (BitVec.toNat
  (BitVec.ofInt 64 (0 : Int) |||
  BitVec.ofInt 64
  (IntKind.wrap IntKind.u64
  (U8.v
  (List.getD b (k + 1 + 0 + 0)
  Enc.dflt))))))))
  (0 : Int) 0))))
  (need (Nat.ble (List.length l + 1) 1000000)
  (need (true && Nat.ble (0 + List.length l) (List.length l))
  (onP N AX.normal
  (shpTkB b l c cl n
  (IntKind.wrap IntKind.i64
  (IntKind.wrap IntKind.u64
  (Int.ofNat
  (BitVec.toNat
  (BitVec.ofInt 64 (0 : Int) |||
  BitVec.ofInt 64
  (IntKind.wrap IntKind.u64
  (U8.v
  (List.getD b (k + 0 + 0)
  Enc.dflt))))))))
  (IntKind.wrap IntKind.i64
  (IntKind.wrap IntKind.u64
  (Int.ofNat
  (BitVec.toNat
  (BitVec.ofInt 64 (0 : Int) |||
  BitVec.ofInt 64
  (IntKind.wrap IntKind.u64
  (U8.v
  (List.getD b (k + 1 + 0 + 0)
  Enc.dflt))))))))
  (IntKind.wrap IntKind.i64
  (IntKind.wrap IntKind.u64
  (Int.ofNat
  (BitVec.toNat
  (BitVec.ofInt 64
  (IntKind.wrap IntKind.u64
  (IntKind.wrap IntKind.u64
  (Int.ofNat
  (BitVec.toNat
  (BitVec.ofInt 64 (0 : Int) |||
  BitVec.ofInt 64
  (IntKind.wrap IntKind.u64
  (U8.v
  (List.getD b
  (k + 1 + 1 +
  0 +
  0)
  Enc.dflt)))))) *
  (256 : Int))) |||
  BitVec.ofInt 64
  (IntKind.wrap IntKind.u64
  (U8.v
  (List.getD b
  (k + 1 + 1 + 0 +
  1)
  Enc.dflt))))))))
  (0 : Int)
  (IntKind.wrap IntKind.i64
  (IntKind.wrap IntKind.u64
  (Int.ofNat
  (BitVec.toNat
  (BitVec.ofInt 64 (0 : Int) |||
  BitVec.ofInt 64
  (IntKind.wrap IntKind.u64
  (U8.v
  (List.getD b (k + 1 + 0 + 0)
  Enc.dflt))))))))
  (0 : Int) 0)))))))
  (br
  (IntKind.wrap IntKind.i64
  (IntKind.wrap IntKind.u64
  (Int.ofNat
  (BitVec.toNat
  (BitVec.ofInt 64 (0 : Int) |||
  BitVec.ofInt 64
  (IntKind.wrap IntKind.u64
  (U8.v
  (List.getD b (k + 1 + 0 + 0)
  Enc.dflt))))))) ==
  (4 : Int))
  (br
  (IntKind.wrap IntKind.i64
  (IntKind.wrap IntKind.u64
  (Int.ofNat
  (BitVec.toNat
  (BitVec.ofInt 64 (0 : Int) |||
  BitVec.ofInt 64
  (IntKind.wrap IntKind.u64
  (U8.v
  (List.getD b (k + 1 + 0 + 0)
  Enc.dflt))))))) ==
  (5 : Int))
  (need (Nat.ble (List.length l + 1) 1000000)
  (need (true && Nat.ble (0 + List.length l) (List.length l))
  (onP N AX.normal
  (shpTkB b l c cl n
  (IntKind.wrap IntKind.i64
  (IntKind.wrap IntKind.u64
  (Int.ofNat
  (BitVec.toNat
  (BitVec.ofInt 64 (0 : Int) |||
  BitVec.ofInt 64
  (IntKind.wrap IntKind.u64
  (U8.v
  (List.getD b (k + 0 + 0)
  Enc.dflt))))))))
  (IntKind.wrap IntKind.i64
  (IntKind.wrap IntKind.u64
  (Int.ofNat
  (BitVec.toNat
  (BitVec.ofInt 64 (0 : Int) |||
  BitVec.ofInt 64
  (IntKind.wrap IntKind.u64
  (U8.v
  (List.getD b (k + 1 + 0 + 0)
  Enc.dflt))))))))
  (IntKind.wrap IntKind.i64
  (IntKind.wrap IntKind.u64
  (Int.ofNat
  (BitVec.toNat
  (BitVec.ofInt 64
  (IntKind.wrap IntKind.u64
  (IntKind.wrap IntKind.u64
  (Int.ofNat
  (BitVec.toNat
  (BitVec.ofInt 64 (0 : Int) |||
  BitVec.ofInt 64
  (IntKind.wrap IntKind.u64
  (U8.v
  (List.getD b
  (k + 1 + 1 +
  0 +
  0)
  Enc.dflt)))))) *
  (256 : Int))) |||
  BitVec.ofInt 64
  (IntKind.wrap IntKind.u64
  (U8.v
  (List.getD b
  (k + 1 + 1 + 0 + 1)
  Enc.dflt))))))))
  (0 : Int)
  (IntKind.wrap IntKind.i64
  (IntKind.wrap IntKind.u64
  (Int.ofNat
  (BitVec.toNat
  (BitVec.ofInt 64 (0 : Int) |||
  BitVec.ofInt 64
  (IntKind.wrap IntKind.u64
  (U8.v
  (List.getD b (k + 1 + 0 + 0)
  Enc.dflt))))))))
  (0 : Int) 0))))
  (br
  (IntKind.wrap IntKind.i64
  (IntKind.wrap IntKind.u64
  (Int.ofNat
  (BitVec.toNat
  (BitVec.ofInt 64 (0 : Int) |||
  BitVec.ofInt 64
  (IntKind.wrap IntKind.u64
  (U8.v
  (List.getD b (k + 1 + 0 + 0)
  Enc.dflt))))))) ==
  (2 : Int))
  (need (Nat.ble (List.length l + 1) 1000000)
  (need (true && Nat.ble (0 + List.length l) (List.length l))
  (onP N AX.normal
  (shpTkB b l c cl n
  (IntKind.wrap IntKind.i64
  (IntKind.wrap IntKind.u64
  (Int.ofNat
  (BitVec.toNat
  (BitVec.ofInt 64 (0 : Int) |||
  BitVec.ofInt 64
  (IntKind.wrap IntKind.u64
  (U8.v
  (List.getD b (k + 0 + 0)
  Enc.dflt))))))))
  (IntKind.wrap IntKind.i64
  (IntKind.wrap IntKind.u64
  (Int.ofNat
  (BitVec.toNat
  (BitVec.ofInt 64 (0 : Int) |||
  BitVec.ofInt 64
  (IntKind.wrap IntKind.u64
  (U8.v
  (List.getD b (k + 1 + 0 + 0)
  Enc.dflt))))))))
  (IntKind.wrap IntKind.i64
  (IntKind.wrap IntKind.u64
  (Int.ofNat
  (BitVec.toNat
  (BitVec.ofInt 64
  (IntKind.wrap IntKind.u64
  (IntKind.wrap IntKind.u64
  (Int.ofNat
  (BitVec.toNat
  (BitVec.ofInt 64 (0 : Int) |||
  BitVec.ofInt 64
  (IntKind.wrap IntKind.u64
  (U8.v
  (List.getD b
  (k + 1 + 1 +
  0 +
  0)
  Enc.dflt)))))) *
  (256 : Int))) |||
  BitVec.ofInt 64
  (IntKind.wrap IntKind.u64
  (U8.v
  (List.getD b
  (k + 1 + 1 + 0 +
  1)
  Enc.dflt))))))))
  (0 : Int)
  (IntKind.wrap IntKind.i64
  (IntKind.wrap IntKind.u64
  (Int.ofNat
  (BitVec.toNat
  (BitVec.ofInt 64 (0 : Int) |||
  BitVec.ofInt 64
  (IntKind.wrap IntKind.u64
  (U8.v
  (List.getD b (k + 1 + 0 + 0)
  Enc.dflt))))))))
  (0 : Int) 0))))
  (br
  (IntKind.wrap IntKind.i64
  (IntKind.wrap IntKind.u64
  (Int.ofNat
  (BitVec.toNat
  (BitVec.ofInt 64 (0 : Int) |||
  BitVec.ofInt 64
  (IntKind.wrap IntKind.u64
  (U8.v
  (List.getD b (k + 1 + 0 + 0)
  Enc.dflt))))))) ==
  (3 : Int))
  (need (Nat.ble (List.length l + 1) 1000000)
  (need (true && Nat.ble (0 + List.length l) (List.length l))
  (onP N AX.normal
  (shpTkB b l c cl n
  (IntKind.wrap IntKind.i64
  (IntKind.wrap IntKind.u64
  (Int.ofNat
  (BitVec.toNat
  (BitVec.ofInt 64 (0 : Int) |||
  BitVec.ofInt 64
  (IntKind.wrap IntKind.u64
  (U8.v
  (List.getD b (k + 0 + 0)
  Enc.dflt))))))))
  (IntKind.wrap IntKind.i64
  (IntKind.wrap IntKind.u64
  (Int.ofNat
  (BitVec.toNat
  (BitVec.ofInt 64 (0 : Int) |||
  BitVec.ofInt 64
  (IntKind.wrap IntKind.u64
  (U8.v
  (List.getD b
  (k + 1 + 0 + 0)
  Enc.dflt))))))))
  (IntKind.wrap IntKind.i64
  (IntKind.wrap IntKind.u64
  (Int.ofNat
  (BitVec.toNat
  (BitVec.ofInt 64
  (IntKind.wrap IntKind.u64
  (IntKind.wrap IntKind.u64
  (Int.ofNat
  (BitVec.toNat
  (BitVec.ofInt 64 (0 : Int) |||
  BitVec.ofInt 64
  (IntKind.wrap IntKind.u64
  (U8.v
  (List.getD b
  (k + 1 + 1 +
  0 +
  0)
  Enc.dflt)))))) *
  (256 : Int))) |||
  BitVec.ofInt 64
  (IntKind.wrap IntKind.u64
  (U8.v
  (List.getD b
  (k + 1 + 1 + 0 +
  1)
  Enc.dflt))))))))
  (0 : Int)
  (IntKind.wrap IntKind.i64
  (IntKind.wrap IntKind.u64
  (Int.ofNat
  (BitVec.toNat
  (BitVec.ofInt 64 (0 : Int) |||
  BitVec.ofInt 64
  (IntKind.wrap IntKind.u64
  (U8.v
  (List.getD b
  (k + 1 + 0 + 0)
  Enc.dflt))))))))
  (0 : Int) 0))))
  (need (Nat.ble (List.length l + 1) 1000000)
  (need (true && Nat.ble (0 + List.length l) (List.length l))
  (onP N AX.normal
  (shpTkB b l c cl n
  (IntKind.wrap IntKind.i64
  (IntKind.wrap IntKind.u64
  (Int.ofNat
  (BitVec.toNat
  (BitVec.ofInt 64 (0 : Int) |||
  BitVec.ofInt 64
  (IntKind.wrap IntKind.u64
  (U8.v
  (List.getD b (k + 0 + 0)
  Enc.dflt))))))))
  (IntKind.wrap IntKind.i64
  (IntKind.wrap IntKind.u64
  (Int.ofNat
  (BitVec.toNat
  (BitVec.ofInt 64 (0 : Int) |||
  BitVec.ofInt 64
  (IntKind.wrap IntKind.u64
  (U8.v
  (List.getD b
  (k + 1 + 0 + 0)
  Enc.dflt))))))))
  (IntKind.wrap IntKind.i64
  (IntKind.wrap IntKind.u64
  (Int.ofNat
  (BitVec.toNat
  (BitVec.ofInt 64
  (IntKind.wrap IntKind.u64
  (IntKind.wrap IntKind.u64
  (Int.ofNat
  (BitVec.toNat
  (BitVec.ofInt 64 (0 : Int) |||
  BitVec.ofInt 64
  (IntKind.wrap IntKind.u64
  (U8.v
  (List.getD b
  (k + 1 + 1 +
  0 +
  0)
  Enc.dflt)))))) *
  (256 : Int))) |||
  BitVec.ofInt 64
  (IntKind.wrap IntKind.u64
  (U8.v
  (List.getD b
  (k + 1 + 1 + 0 +
  1)
  Enc.dflt))))))))
  (0 : Int)
  (IntKind.wrap IntKind.i64
  (IntKind.wrap IntKind.u64
  (Int.ofNat
  (BitVec.toNat
  (BitVec.ofInt 64 (0 : Int) |||
  BitVec.ofInt 64
  (IntKind.wrap IntKind.u64
  (U8.v
  (List.getD b
  (k + 1 + 0 + 0)
  Enc.dflt))))))))
  (0 : Int) 0)))))))
  (br
  (IntKind.wrap IntKind.i64
  (IntKind.wrap IntKind.u64
  (Int.ofNat
  (BitVec.toNat
  (BitVec.ofInt 64 (0 : Int) |||
  BitVec.ofInt 64
  (IntKind.wrap IntKind.u64
  (U8.v
  (List.getD b (k + 1 + 0 + 0)
  Enc.dflt))))))) ==
  (5 : Int))
  (br
  (IntKind.wrap IntKind.i64
  (IntKind.wrap IntKind.u64
  (Int.ofNat
  (BitVec.toNat
  (BitVec.ofInt 64 (0 : Int) |||
  BitVec.ofInt 64
  (IntKind.wrap IntKind.u64
  (U8.v
  (List.getD b (k + 1 + 0 + 0)
  Enc.dflt))))))) ==
  (5 : Int))
  (need (Nat.ble (List.length l + 1) 1000000)
  (need (true && Nat.ble (0 + List.length l) (List.length l))
  (onP N AX.normal
  (shpTkB b l c cl n
  (IntKind.wrap IntKind.i64
  (IntKind.wrap IntKind.u64
  (Int.ofNat
  (BitVec.toNat
  (BitVec.ofInt 64 (0 : Int) |||
  BitVec.ofInt 64
  (IntKind.wrap IntKind.u64
  (U8.v
  (List.getD b (k + 0 + 0)
  Enc.dflt))))))))
  (IntKind.wrap IntKind.i64
  (IntKind.wrap IntKind.u64
  (Int.ofNat
  (BitVec.toNat
  (BitVec.ofInt 64 (0 : Int) |||
  BitVec.ofInt 64
  (IntKind.wrap IntKind.u64
  (U8.v
  (List.getD b (k + 1 + 0 + 0)
  Enc.dflt))))))))
  (IntKind.wrap IntKind.i64
  (IntKind.wrap IntKind.u64
  (Int.ofNat
  (BitVec.toNat
  (BitVec.ofInt 64
  (IntKind.wrap IntKind.u64
  (IntKind.wrap IntKind.u64
  (Int.ofNat
  (BitVec.toNat
  (BitVec.ofInt 64 (0 : Int) |||
  BitVec.ofInt 64
  (IntKind.wrap IntKind.u64
  (U8.v
  (List.getD b
  (k + 1 + 1 +
  0 +
  0)
  Enc.dflt)))))) *
  (256 : Int))) |||
  BitVec.ofInt 64
  (IntKind.wrap IntKind.u64
  (U8.v
  (List.getD b
  (k + 1 + 1 + 0 +
  1)
  Enc.dflt))))))))
  (0 : Int)
  (IntKind.wrap IntKind.i64
  (IntKind.wrap IntKind.u64
  (Int.ofNat
  (BitVec.toNat
  (BitVec.ofInt 64 (0 : Int) |||
  BitVec.ofInt 64
  (IntKind.wrap IntKind.u64
  (U8.v
  (List.getD b (k + 1 + 0 + 0)
  Enc.dflt))))))))
  (0 : Int) 0))))
  (br
  (IntKind.wrap IntKind.i64
  (IntKind.wrap IntKind.u64
  (Int.ofNat
  (BitVec.toNat
  (BitVec.ofInt 64 (0 : Int) |||
  BitVec.ofInt 64
  (IntKind.wrap IntKind.u64
  (U8.v
  (List.getD b (k + 1 + 0 + 0)
  Enc.dflt))))))) ==
  (2 : Int))
  (need (Nat.ble (List.length l + 1) 1000000)
  (need (true && Nat.ble (0 + List.length l) (List.length l))
  (onP N AX.normal
  (shpTkB b l c cl n
  (IntKind.wrap IntKind.i64
  (IntKind.wrap IntKind.u64
  (Int.ofNat
  (BitVec.toNat
  (BitVec.ofInt 64 (0 : Int) |||
  BitVec.ofInt 64
  (IntKind.wrap IntKind.u64
  (U8.v
  (List.getD b (k + 0 + 0)
  Enc.dflt))))))))
  (IntKind.wrap IntKind.i64
  (IntKind.wrap IntKind.u64
  (Int.ofNat
  (BitVec.toNat
  (BitVec.ofInt 64 (0 : Int) |||
  BitVec.ofInt 64
  (IntKind.wrap IntKind.u64
  (U8.v
  (List.getD b
  (k + 1 + 0 + 0)
  Enc.dflt))))))))
  (IntKind.wrap IntKind.i64
  (IntKind.wrap IntKind.u64
  (Int.ofNat
  (BitVec.toNat
  (BitVec.ofInt 64
  (IntKind.wrap IntKind.u64
  (IntKind.wrap IntKind.u64
  (Int.ofNat
  (BitVec.toNat
  (BitVec.ofInt 64 (0 : Int) |||
  BitVec.ofInt 64
  (IntKind.wrap IntKind.u64
  (U8.v
  (List.getD b
  (k + 1 + 1 +
  0 +
  0)
  Enc.dflt)))))) *
  (256 : Int))) |||
  BitVec.ofInt 64
  (IntKind.wrap IntKind.u64
  (U8.v
  (List.getD b
  (k + 1 + 1 + 0 +
  1)
  Enc.dflt))))))))
  (0 : Int)
  (IntKind.wrap IntKind.i64
  (IntKind.wrap IntKind.u64
  (Int.ofNat
  (BitVec.toNat
  (BitVec.ofInt 64 (0 : Int) |||
  BitVec.ofInt 64
  (IntKind.wrap IntKind.u64
  (U8.v
  (List.getD b
  (k + 1 + 0 + 0)
  Enc.dflt))))))))
  (0 : Int) 0))))
  (br
  (IntKind.wrap IntKind.i64
  (IntKind.wrap IntKind.u64
  (Int.ofNat
  (BitVec.toNat
  (BitVec.ofInt 64 (0 : Int) |||
  BitVec.ofInt 64
  (IntKind.wrap IntKind.u64
  (U8.v
  (List.getD b (k + 1 + 0 + 0)
  Enc.dflt))))))) ==
  (3 : Int))
  (need (Nat.ble (List.length l + 1) 1000000)
  (need (true && Nat.ble (0 + List.length l) (List.length l))
  (onP N AX.normal
  (shpTkB b l c cl n
  (IntKind.wrap IntKind.i64
  (IntKind.wrap IntKind.u64
  (Int.ofNat
  (BitVec.toNat
  (BitVec.ofInt 64 (0 : Int) |||
  BitVec.ofInt 64
  (IntKind.wrap IntKind.u64
  (U8.v
  (List.getD b (k + 0 + 0)
  Enc.dflt))))))))
  (IntKind.wrap IntKind.i64
  (IntKind.wrap IntKind.u64
  (Int.ofNat
  (BitVec.toNat
  (BitVec.ofInt 64 (0 : Int) |||
  BitVec.ofInt 64
  (IntKind.wrap IntKind.u64
  (U8.v
  (List.getD b
  (k + 1 + 0 + 0)
  Enc.dflt))))))))
  (IntKind.wrap IntKind.i64
  (IntKind.wrap IntKind.u64
  (Int.ofNat
  (BitVec.toNat
  (BitVec.ofInt 64
  (IntKind.wrap IntKind.u64
  (IntKind.wrap IntKind.u64
  (Int.ofNat
  (BitVec.toNat
  (BitVec.ofInt 64 (0 : Int) |||
  BitVec.ofInt 64
  (IntKind.wrap IntKind.u64
  (U8.v
  (List.getD b
  (k + 1 + 1 +
  0 +
  0)
  Enc.dflt)))))) *
  (256 : Int))) |||
  BitVec.ofInt 64
  (IntKind.wrap IntKind.u64
  (U8.v
  (List.getD b
  (k + 1 + 1 + 0 +
  1)
  Enc.dflt))))))))
  (0 : Int)
  (IntKind.wrap IntKind.i64
  (IntKind.wrap IntKind.u64
  (Int.ofNat
  (BitVec.toNat
  (BitVec.ofInt 64 (0 : Int) |||
  BitVec.ofInt 64
  (IntKind.wrap IntKind.u64
  (U8.v
  (List.getD b
  (k + 1 + 0 + 0)
  Enc.dflt))))))))
  (0 : Int) 0))))
  (need (Nat.ble (List.length l + 1) 1000000)
  (need (true && Nat.ble (0 + List.length l) (List.length l))
  (onP N AX.normal
  (shpTkB b l c cl n
  (IntKind.wrap IntKind.i64
  (IntKind.wrap IntKind.u64
  (Int.ofNat
  (BitVec.toNat
  (BitVec.ofInt 64 (0 : Int) |||
  BitVec.ofInt 64
  (IntKind.wrap IntKind.u64
  (U8.v
  (List.getD b (k + 0 + 0)
  Enc.dflt))))))))
  (IntKind.wrap IntKind.i64
  (IntKind.wrap IntKind.u64
  (Int.ofNat
  (BitVec.toNat
  (BitVec.ofInt 64 (0 : Int) |||
  BitVec.ofInt 64
  (IntKind.wrap IntKind.u64
  (U8.v
  (List.getD b
  (k + 1 + 0 + 0)
  Enc.dflt))))))))
  (IntKind.wrap IntKind.i64
  (IntKind.wrap IntKind.u64
  (Int.ofNat
  (BitVec.toNat
  (BitVec.ofInt 64
  (IntKind.wrap IntKind.u64
  (IntKind.wrap IntKind.u64
  (Int.ofNat
  (BitVec.toNat
  (BitVec.ofInt 64 (0 : Int) |||
  BitVec.ofInt 64
  (IntKind.wrap IntKind.u64
  (U8.v
  (List.getD b
  (k + 1 + 1 +
  0 +
  0)
  Enc.dflt)))))) *
  (256 : Int))) |||
  BitVec.ofInt 64
  (IntKind.wrap IntKind.u64
  (U8.v
  (List.getD b
  (k + 1 + 1 + 0 +
  1)
  Enc.dflt))))))))
  (0 : Int)
  (IntKind.wrap IntKind.i64
  (IntKind.wrap IntKind.u64
  (Int.ofNat
  (BitVec.toNat
  (BitVec.ofInt 64 (0 : Int) |||
  BitVec.ofInt 64
  (IntKind.wrap IntKind.u64
  (U8.v
  (List.getD b
  (k + 1 + 0 + 0)
  Enc.dflt))))))))
  (0 : Int) 0)))))))
  (br
  (IntKind.wrap IntKind.i64
  (IntKind.wrap IntKind.u64
  (Int.ofNat
  (BitVec.toNat
  (BitVec.ofInt 64 (0 : Int) |||
  BitVec.ofInt 64
  (IntKind.wrap IntKind.u64
  (U8.v
  (List.getD b (k + 1 + 0 + 0)
  Enc.dflt))))))) ==
  (5 : Int))
  (need (Nat.ble (List.length l + 1) 1000000)
  (need (true && Nat.ble (0 + List.length l) (List.length l))
  (onP N AX.normal
  (shpTkB b l c cl n
  (IntKind.wrap IntKind.i64
  (IntKind.wrap IntKind.u64
  (Int.ofNat
  (BitVec.toNat
  (BitVec.ofInt 64 (0 : Int) |||
  BitVec.ofInt 64
  (IntKind.wrap IntKind.u64
  (U8.v
  (List.getD b (k + 0 + 0)
  Enc.dflt))))))))
  (IntKind.wrap IntKind.i64
  (IntKind.wrap IntKind.u64
  (Int.ofNat
  (BitVec.toNat
  (BitVec.ofInt 64 (0 : Int) |||
  BitVec.ofInt 64
  (IntKind.wrap IntKind.u64
  (U8.v
  (List.getD b (k + 1 + 0 + 0)
  Enc.dflt))))))))
  (IntKind.wrap IntKind.i64
  (IntKind.wrap IntKind.u64
  (Int.ofNat
  (BitVec.toNat
  (BitVec.ofInt 64
  (IntKind.wrap IntKind.u64
  (IntKind.wrap IntKind.u64
  (Int.ofNat
  (BitVec.toNat
  (BitVec.ofInt 64 (0 : Int) |||
  BitVec.ofInt 64
  (IntKind.wrap IntKind.u64
  (U8.v
  (List.getD b
  (k + 1 + 1 +
  0 +
  0)
  Enc.dflt)))))) *
  (256 : Int))) |||
  BitVec.ofInt 64
  (IntKind.wrap IntKind.u64
  (U8.v
  (List.getD b
  (k + 1 + 1 + 0 +
  1)
  Enc.dflt))))))))
  (0 : Int)
  (IntKind.wrap IntKind.i64
  (IntKind.wrap IntKind.u64
  (Int.ofNat
  (BitVec.toNat
  (BitVec.ofInt 64 (0 : Int) |||
  BitVec.ofInt 64
  (IntKind.wrap IntKind.u64
  (U8.v
  (List.getD b (k + 1 + 0 + 0)
  Enc.dflt))))))))
  (0 : Int) 0))))
  (br
  (IntKind.wrap IntKind.i64
  (IntKind.wrap IntKind.u64
  (Int.ofNat
  (BitVec.toNat
  (BitVec.ofInt 64 (0 : Int) |||
  BitVec.ofInt 64
  (IntKind.wrap IntKind.u64
  (U8.v
  (List.getD b (k + 1 + 0 + 0)
  Enc.dflt))))))) ==
  (2 : Int))
  (need (Nat.ble (List.length l + 1) 1000000)
  (need (true && Nat.ble (0 + List.length l) (List.length l))
  (onP N AX.normal
  (shpTkB b l c cl n
  (IntKind.wrap IntKind.i64
  (IntKind.wrap IntKind.u64
  (Int.ofNat
  (BitVec.toNat
  (BitVec.ofInt 64 (0 : Int) |||
  BitVec.ofInt 64
  (IntKind.wrap IntKind.u64
  (U8.v
  (List.getD b (k + 0 + 0)
  Enc.dflt))))))))
  (IntKind.wrap IntKind.i64
  (IntKind.wrap IntKind.u64
  (Int.ofNat
  (BitVec.toNat
  (BitVec.ofInt 64 (0 : Int) |||
  BitVec.ofInt 64
  (IntKind.wrap IntKind.u64
  (U8.v
  (List.getD b
  (k + 1 + 0 + 0)
  Enc.dflt))))))))
  (IntKind.wrap IntKind.i64
  (IntKind.wrap IntKind.u64
  (Int.ofNat
  (BitVec.toNat
  (BitVec.ofInt 64
  (IntKind.wrap IntKind.u64
  (IntKind.wrap IntKind.u64
  (Int.ofNat
  (BitVec.toNat
  (BitVec.ofInt 64 (0 : Int) |||
  BitVec.ofInt 64
  (IntKind.wrap IntKind.u64
  (U8.v
  (List.getD b
  (k + 1 + 1 +
  0 +
  0)
  Enc.dflt)))))) *
  (256 : Int))) |||
  BitVec.ofInt 64
  (IntKind.wrap IntKind.u64
  (U8.v
  (List.getD b
  (k + 1 + 1 + 0 +
  1)
  Enc.dflt))))))))
  (0 : Int)
  (IntKind.wrap IntKind.i64
  (IntKind.wrap IntKind.u64
  (Int.ofNat
  (BitVec.toNat
  (BitVec.ofInt 64 (0 : Int) |||
  BitVec.ofInt 64
  (IntKind.wrap IntKind.u64
  (U8.v
  (List.getD b
  (k + 1 + 0 + 0)
  Enc.dflt))))))))
  (0 : Int) 0))))
  (br
  (IntKind.wrap IntKind.i64
  (IntKind.wrap IntKind.u64
  (Int.ofNat
  (BitVec.toNat
  (BitVec.ofInt 64 (0 : Int) |||
  BitVec.ofInt 64
  (IntKind.wrap IntKind.u64
  (U8.v
  (List.getD b (k + 1 + 0 + 0)
  Enc.dflt))))))) ==
  (3 : Int))
  (need (Nat.ble (List.length l + 1) 1000000)
  (need (true && Nat.ble (0 + List.length l) (List.length l))
  (onP N AX.normal
  (shpTkB b l c cl n
  (IntKind.wrap IntKind.i64
  (IntKind.wrap IntKind.u64
  (Int.ofNat
  (BitVec.toNat
  (BitVec.ofInt 64 (0 : Int) |||
  BitVec.ofInt 64
  (IntKind.wrap IntKind.u64
  (U8.v
  (List.getD b (k + 0 + 0)
  Enc.dflt))))))))
  (IntKind.wrap IntKind.i64
  (IntKind.wrap IntKind.u64
  (Int.ofNat
  (BitVec.toNat
  (BitVec.ofInt 64 (0 : Int) |||
  BitVec.ofInt 64
  (IntKind.wrap IntKind.u64
  (U8.v
  (List.getD b
  (k + 1 + 0 + 0)
  Enc.dflt))))))))
  (IntKind.wrap IntKind.i64
  (IntKind.wrap IntKind.u64
  (Int.ofNat
  (BitVec.toNat
  (BitVec.ofInt 64
  (IntKind.wrap IntKind.u64
  (IntKind.wrap IntKind.u64
  (Int.ofNat
  (BitVec.toNat
  (BitVec.ofInt 64 (0 : Int) |||
  BitVec.ofInt 64
  (IntKind.wrap IntKind.u64
  (U8.v
  (List.getD b
  (k + 1 + 1 +
  0 +
  0)
  Enc.dflt)))))) *
  (256 : Int))) |||
  BitVec.ofInt 64
  (IntKind.wrap IntKind.u64
  (U8.v
  (List.getD b
  (k + 1 + 1 + 0 +
  1)
  Enc.dflt))))))))
  (0 : Int)
  (IntKind.wrap IntKind.i64
  (IntKind.wrap IntKind.u64
  (Int.ofNat
  (BitVec.toNat
  (BitVec.ofInt 64 (0 : Int) |||
  BitVec.ofInt 64
  (IntKind.wrap IntKind.u64
  (U8.v
  (List.getD b
  (k + 1 + 0 + 0)
  Enc.dflt))))))))
  (0 : Int) 0))))
  (need (Nat.ble (List.length l + 1) 1000000)
  (need (true && Nat.ble (0 + List.length l) (List.length l))
  (onP N AX.normal
  (shpTkB b l c cl n
  (IntKind.wrap IntKind.i64
  (IntKind.wrap IntKind.u64
  (Int.ofNat
  (BitVec.toNat
  (BitVec.ofInt 64 (0 : Int) |||
  BitVec.ofInt 64
  (IntKind.wrap IntKind.u64
  (U8.v
  (List.getD b (k + 0 + 0)
  Enc.dflt))))))))
  (IntKind.wrap IntKind.i64
  (IntKind.wrap IntKind.u64
  (Int.ofNat
  (BitVec.toNat
  (BitVec.ofInt 64 (0 : Int) |||
  BitVec.ofInt 64
  (IntKind.wrap IntKind.u64
  (U8.v
  (List.getD b
  (k + 1 + 0 + 0)
  Enc.dflt))))))))
  (IntKind.wrap IntKind.i64
  (IntKind.wrap IntKind.u64
  (Int.ofNat
  (BitVec.toNat
  (BitVec.ofInt 64
  (IntKind.wrap IntKind.u64
  (IntKind.wrap IntKind.u64
  (Int.ofNat
  (BitVec.toNat
  (BitVec.ofInt 64 (0 : Int) |||
  BitVec.ofInt 64
  (IntKind.wrap IntKind.u64
  (U8.v
  (List.getD b
  (k + 1 + 1 +
  0 +
  0)
  Enc.dflt)))))) *
  (256 : Int))) |||
  BitVec.ofInt 64
  (IntKind.wrap IntKind.u64
  (U8.v
  (List.getD b
  (k + 1 + 1 + 0 +
  1)
  Enc.dflt))))))))
  (0 : Int)
  (IntKind.wrap IntKind.i64
  (IntKind.wrap IntKind.u64
  (Int.ofNat
  (BitVec.toNat
  (BitVec.ofInt 64 (0 : Int) |||
  BitVec.ofInt 64
  (IntKind.wrap IntKind.u64
  (U8.v
  (List.getD b
  (k + 1 + 0 + 0)
  Enc.dflt))))))))
  (0 : Int) 0))))))))))))
  (need (Nat.ble (List.length l + 1) 1000000)
  (need (true && Nat.ble (0 + List.length l) (List.length l))
  (onP N AX.normal
  (shpTkB b l c cl n
  (IntKind.wrap IntKind.i64
  (IntKind.wrap IntKind.u64
  (Int.ofNat
  (BitVec.toNat
  (BitVec.ofInt 64 (0 : Int) |||
  BitVec.ofInt 64
  (IntKind.wrap IntKind.u64
  (U8.v (List.getD b (k + 0 + 0) Enc.dflt))))))))
  (IntKind.wrap IntKind.i64
  (IntKind.wrap IntKind.u64
  (Int.ofNat
  (BitVec.toNat
  (BitVec.ofInt 64 (0 : Int) |||
  BitVec.ofInt 64
  (IntKind.wrap IntKind.u64
  (U8.v
  (List.getD b (k + 1 + 0 + 0)
  Enc.dflt))))))))
  (IntKind.wrap IntKind.i64
  (IntKind.wrap IntKind.u64
  (Int.ofNat
  (BitVec.toNat
  (BitVec.ofInt 64
  (IntKind.wrap IntKind.u64
  (IntKind.wrap IntKind.u64
  (Int.ofNat
  (BitVec.toNat
  (BitVec.ofInt 64 (0 : Int) |||
  BitVec.ofInt 64
  (IntKind.wrap IntKind.u64
  (U8.v
  (List.getD b
  (k + 1 + 1 + 0 +
  0)
  Enc.dflt)))))) *
  (256 : Int))) |||
  BitVec.ofInt 64
  (IntKind.wrap IntKind.u64
  (U8.v
  (List.getD b (k + 1 + 1 + 0 + 1)
  Enc.dflt))))))))
  (0 : Int) (0 : Int) (0 : Int) 0)))))
  (need (Nat.ble 1 (m - 1 - 1 - 2))
  (need
  (Nat.ble 0 (k + 1 + 1 + 2 + 0 + 0) &&
  Nat.blt (k + 1 + 1 + 2 + 0 + 0)
  (List.length b))
  (need (Nat.ble 1 (m - 1 - 1 - 2))
  (br
  (IntKind.wrap IntKind.i64
  (IntKind.wrap IntKind.u64
  (Int.ofNat
  (BitVec.toNat
  (BitVec.ofInt 64 (0 : Int) |||
  BitVec.ofInt 64
  (IntKind.wrap IntKind.u64
  (U8.v (List.getD b (k + 0 + 0) Enc.dflt))))))) ==
  (1 : Int))
  (br
  (IntKind.wrap IntKind.i64
  (IntKind.wrap IntKind.u64
  (Int.ofNat
  (BitVec.toNat
  (BitVec.ofInt 64 (0 : Int) |||
  BitVec.ofInt 64
  (IntKind.wrap IntKind.u64
  (U8.v
  (List.getD b (k + 1 + 0 + 0)
  Enc.dflt))))))) ==
  (1 : Int))
  (br
  (decide
  ((1 : Int) > Int.ofNat (m - 1 - 1 - 2 - 1)))
  (br
  (IntKind.wrap IntKind.i64
  (IntKind.wrap IntKind.u64
  (Int.ofNat
  (BitVec.toNat
  (BitVec.ofInt 64 (0 : Int) |||
  BitVec.ofInt 64
  (IntKind.wrap IntKind.u64
  (U8.v
  (List.getD b (k + 1 + 0 + 0)
  Enc.dflt))))))) ==
  (5 : Int))
  (need (Nat.ble (List.length l + 1) 1000000)
  (need (true && Nat.ble (0 + List.length l) (List.length l))
  (onP N AX.normal
  (shpTkB b l c cl n
  (IntKind.wrap IntKind.i64
  (IntKind.wrap IntKind.u64
  (Int.ofNat
  (BitVec.toNat
  (BitVec.ofInt 64 (0 : Int) |||
  BitVec.ofInt 64
  (IntKind.wrap IntKind.u64
  (U8.v
  (List.getD b (k + 0 + 0)
  Enc.dflt))))))))
  (IntKind.wrap IntKind.i64
  (IntKind.wrap IntKind.u64
  (Int.ofNat
  (BitVec.toNat
  (BitVec.ofInt 64 (0 : Int) |||
  BitVec.ofInt 64
  (IntKind.wrap IntKind.u64
  (U8.v
  (List.getD b (k + 1 + 0 + 0)
  Enc.dflt))))))))
  (IntKind.wrap IntKind.i64
  (IntKind.wrap IntKind.u64
  (Int.ofNat
  (BitVec.toNat
  (BitVec.ofInt 64
  (IntKind.wrap IntKind.u64
  (IntKind.wrap IntKind.u64
  (Int.ofNat
  (BitVec.toNat
  (BitVec.ofInt 64 (0 : Int) |||
  BitVec.ofInt 64
  (IntKind.wrap IntKind.u64
  (U8.v
  (List.getD b
  (k + 1 + 1 +
  0 +
  0)
  Enc.dflt)))))) *
  (256 : Int))) |||
  BitVec.ofInt 64
  (IntKind.wrap IntKind.u64
  (U8.v
  (List.getD b
  (k + 1 + 1 + 0 +
  1)
  Enc.dflt))))))))
  (IntKind.wrap IntKind.i64
  (IntKind.wrap IntKind.u64
  (Int.ofNat
  (BitVec.toNat
  (BitVec.ofInt 64 (0 : Int) |||
  BitVec.ofInt 64
  (IntKind.wrap IntKind.u64
  (U8.v
  (List.getD b
  (k + 1 + 1 + 2 +
  0 +
  0)
  Enc.dflt))))))))
  (IntKind.wrap IntKind.i64
  (IntKind.wrap IntKind.u64
  (Int.ofNat
  (BitVec.toNat
  (BitVec.ofInt 64 (0 : Int) |||
  BitVec.ofInt 64
  (IntKind.wrap IntKind.u64
  (U8.v
  (List.getD b (k + 1 + 0 + 0)
  Enc.dflt))))))))
  (0 : Int) 0))))
  (br
  (IntKind.wrap IntKind.i64
  (IntKind.wrap IntKind.u64
  (Int.ofNat
  (BitVec.toNat
  (BitVec.ofInt 64 (0 : Int) |||
  BitVec.ofInt 64
  (IntKind.wrap IntKind.u64
  (U8.v
  (List.getD b (k + 1 + 0 + 0)
  Enc.dflt))))))) ==
  (2 : Int))
  (need (Nat.ble (List.length l + 1) 1000000)
  (need (true && Nat.ble (0 + List.length l) (List.length l))
  (onP N AX.normal
  (shpTkB b l c cl n
  (IntKind.wrap IntKind.i64
  (IntKind.wrap IntKind.u64
  (Int.ofNat
  (BitVec.toNat
  (BitVec.ofInt 64 (0 : Int) |||
  BitVec.ofInt 64
  (IntKind.wrap IntKind.u64
  (U8.v
  (List.getD b (k + 0 + 0)
  Enc.dflt))))))))
  (IntKind.wrap IntKind.i64
  (IntKind.wrap IntKind.u64
  (Int.ofNat
  (BitVec.toNat
  (BitVec.ofInt 64 (0 : Int) |||
  BitVec.ofInt 64
  (IntKind.wrap IntKind.u64
  (U8.v
  (List.getD b
  (k + 1 + 0 + 0)
  Enc.dflt))))))))
  (IntKind.wrap IntKind.i64
  (IntKind.wrap IntKind.u64
  (Int.ofNat
  (BitVec.toNat
  (BitVec.ofInt 64
  (IntKind.wrap IntKind.u64
  (IntKind.wrap IntKind.u64
  (Int.ofNat
  (BitVec.toNat
  (BitVec.ofInt 64 (0 : Int) |||
  BitVec.ofInt 64
  (IntKind.wrap IntKind.u64
  (U8.v
  (List.getD b
  (k + 1 + 1 +
  0 +
  0)
  Enc.dflt)))))) *
  (256 : Int))) |||
  BitVec.ofInt 64
  (IntKind.wrap IntKind.u64
  (U8.v
  (List.getD b
  (k + 1 + 1 + 0 +
  1)
  Enc.dflt))))))))
  (IntKind.wrap IntKind.i64
  (IntKind.wrap IntKind.u64
  (Int.ofNat
  (BitVec.toNat
  (BitVec.ofInt 64 (0 : Int) |||
  BitVec.ofInt 64
  (IntKind.wrap IntKind.u64
  (U8.v
  (List.getD b
  (k + 1 + 1 + 2 +
  0 +
  0)
  Enc.dflt))))))))
  (IntKind.wrap IntKind.i64
  (IntKind.wrap IntKind.u64
  (Int.ofNat
  (BitVec.toNat
  (BitVec.ofInt 64 (0 : Int) |||
  BitVec.ofInt 64
  (IntKind.wrap IntKind.u64
  (U8.v
  (List.getD b
  (k + 1 + 0 + 0)
  Enc.dflt))))))))
  (0 : Int) 0))))
  (br
  (IntKind.wrap IntKind.i64
  (IntKind.wrap IntKind.u64
  (Int.ofNat
  (BitVec.toNat
  (BitVec.ofInt 64 (0 : Int) |||
  BitVec.ofInt 64
  (IntKind.wrap IntKind.u64
  (U8.v
  (List.getD b (k + 1 + 0 + 0)
  Enc.dflt))))))) ==
  (3 : Int))
  (need (Nat.ble (List.length l + 1) 1000000)
  (need (true && Nat.ble (0 + List.length l) (List.length l))
  (onP N AX.normal
  (shpTkB b l c cl n
  (IntKind.wrap IntKind.i64
  (IntKind.wrap IntKind.u64
  (Int.ofNat
  (BitVec.toNat
  (BitVec.ofInt 64 (0 : Int) |||
  BitVec.ofInt 64
  (IntKind.wrap IntKind.u64
  (U8.v
  (List.getD b (k + 0 + 0)
  Enc.dflt))))))))
  (IntKind.wrap IntKind.i64
  (IntKind.wrap IntKind.u64
  (Int.ofNat
  (BitVec.toNat
  (BitVec.ofInt 64 (0 : Int) |||
  BitVec.ofInt 64
  (IntKind.wrap IntKind.u64
  (U8.v
  (List.getD b
  (k + 1 + 0 + 0)
  Enc.dflt))))))))
  (IntKind.wrap IntKind.i64
  (IntKind.wrap IntKind.u64
  (Int.ofNat
  (BitVec.toNat
  (BitVec.ofInt 64
  (IntKind.wrap IntKind.u64
  (IntKind.wrap IntKind.u64
  (Int.ofNat
  (BitVec.toNat
  (BitVec.ofInt 64 (0 : Int) |||
  BitVec.ofInt 64
  (IntKind.wrap IntKind.u64
  (U8.v
  (List.getD b
  (k + 1 + 1 +
  0 +
  0)
  Enc.dflt)))))) *
  (256 : Int))) |||
  BitVec.ofInt 64
  (IntKind.wrap IntKind.u64
  (U8.v
  (List.getD b
  (k + 1 + 1 + 0 +
  1)
  Enc.dflt))))))))
  (IntKind.wrap IntKind.i64
  (IntKind.wrap IntKind.u64
  (Int.ofNat
  (BitVec.toNat
  (BitVec.ofInt 64 (0 : Int) |||
  BitVec.ofInt 64
  (IntKind.wrap IntKind.u64
  (U8.v
  (List.getD b
  (k + 1 + 1 + 2 +
  0 +
  0)
  Enc.dflt))))))))
  (IntKind.wrap IntKind.i64
  (IntKind.wrap IntKind.u64
  (Int.ofNat
  (BitVec.toNat
  (BitVec.ofInt 64 (0 : Int) |||
  BitVec.ofInt 64
  (IntKind.wrap IntKind.u64
  (U8.v
  (List.getD b
  (k + 1 + 0 + 0)
  Enc.dflt))))))))
  (0 : Int) 0))))
  (need (Nat.ble (List.length l + 1) 1000000)
  (need (true && Nat.ble (0 + List.length l) (List.length l))
  (onP N AX.normal
  (shpTkB b l c cl n
  (IntKind.wrap IntKind.i64
  (IntKind.wrap IntKind.u64
  (Int.ofNat
  (BitVec.toNat
  (BitVec.ofInt 64 (0 : Int) |||
  BitVec.ofInt 64
  (IntKind.wrap IntKind.u64
  (U8.v
  (List.getD b (k + 0 + 0)
  Enc.dflt))))))))
  (IntKind.wrap IntKind.i64
  (IntKind.wrap IntKind.u64
  (Int.ofNat
  (BitVec.toNat
  (BitVec.ofInt 64 (0 : Int) |||
  BitVec.ofInt 64
  (IntKind.wrap IntKind.u64
  (U8.v
  (List.getD b
  (k + 1 + 0 + 0)
  Enc.dflt))))))))
  (IntKind.wrap IntKind.i64
  (IntKind.wrap IntKind.u64
  (Int.ofNat
  (BitVec.toNat
  (BitVec.ofInt 64
  (IntKind.wrap IntKind.u64
  (IntKind.wrap IntKind.u64
  (Int.ofNat
  (BitVec.toNat
  (BitVec.ofInt 64 (0 : Int) |||
  BitVec.ofInt 64
  (IntKind.wrap IntKind.u64
  (U8.v
  (List.getD b
  (k + 1 + 1 +
  0 +
  0)
  Enc.dflt)))))) *
  (256 : Int))) |||
  BitVec.ofInt 64
  (IntKind.wrap IntKind.u64
  (U8.v
  (List.getD b
  (k + 1 + 1 + 0 +
  1)
  Enc.dflt))))))))
  (IntKind.wrap IntKind.i64
  (IntKind.wrap IntKind.u64
  (Int.ofNat
  (BitVec.toNat
  (BitVec.ofInt 64 (0 : Int) |||
  BitVec.ofInt 64
  (IntKind.wrap IntKind.u64
  (U8.v
  (List.getD b
  (k + 1 + 1 + 2 +
  0 +
  0)
  Enc.dflt))))))))
  (IntKind.wrap IntKind.i64
  (IntKind.wrap IntKind.u64
  (Int.ofNat
  (BitVec.toNat
  (BitVec.ofInt 64 (0 : Int) |||
  BitVec.ofInt 64
  (IntKind.wrap IntKind.u64
  (U8.v
  (List.getD b
  (k + 1 + 0 + 0)
  Enc.dflt))))))))
  (0 : Int) 0)))))))
  (need (Nat.ble 1 (m - 1 - 1 - 2 - 1))
  (need
  (Nat.ble 0
  (k + 1 + 1 + 2 + 1 + 0 +
  0) &&
  Nat.blt
  (k + 1 + 1 + 2 + 1 + 0 +
  0)
  (List.length b))
  (need
  (Nat.ble 1 (m - 1 - 1 - 2 - 1))
  (br
  (IntKind.wrap IntKind.i64
  (IntKind.wrap IntKind.u64
  (Int.ofNat
  (BitVec.toNat
  (BitVec.ofInt 64 (0 : Int) |||
  BitVec.ofInt 64
  (IntKind.wrap IntKind.u64
  (U8.v
  (List.getD b (k + 1 + 0 + 0)
  Enc.dflt))))))) ==
  (5 : Int))
  (need (Nat.ble (List.length l + 1) 1000000)
  (need (true && Nat.ble (0 + List.length l) (List.length l))
  (onP N AX.normal
  (shpTkG b l c cl n
  (k + 1 + 1 + 2 + 1 +
  1)
  (m - 1 - 1 - 2 - 1 -
  1)
  (bif
  Nat.beq
  (m - 1 - 1 - 2 - 1)
  0 then
  bif
  Nat.beq (m - 1 - 1 - 2)
  0 then
  bif Nat.beq (m - 1 - 1) 0 then
  bif Nat.beq (m - 1) 0 then
  bif Nat.beq m 0 then cb else 0
  else 0
  else 0
  else 0
  else 0)
  (IntKind.wrap IntKind.i64
  (IntKind.wrap IntKind.u64
  (Int.ofNat
  (BitVec.toNat
  (BitVec.ofInt 64 (0 : Int) |||
  BitVec.ofInt 64
  (IntKind.wrap IntKind.u64
  (U8.v
  (List.getD b (k + 0 + 0)
  Enc.dflt))))))))
  (IntKind.wrap IntKind.i64
  (IntKind.wrap IntKind.u64
  (Int.ofNat
  (BitVec.toNat
  (BitVec.ofInt 64 (0 : Int) |||
  BitVec.ofInt 64
  (IntKind.wrap IntKind.u64
  (U8.v
  (List.getD b
  (k + 1 + 0 + 0)
  Enc.dflt))))))))
  (IntKind.wrap IntKind.i64
  (IntKind.wrap IntKind.u64
  (Int.ofNat
  (BitVec.toNat
  (BitVec.ofInt 64
  (IntKind.wrap IntKind.u64
  (IntKind.wrap IntKind.u64
  (Int.ofNat
  (BitVec.toNat
  (BitVec.ofInt 64 (0 : Int) |||
  BitVec.ofInt 64
  (IntKind.wrap IntKind.u64
  (U8.v
  (List.getD b
  (k + 1 + 1 +
  0 +
  0)
  Enc.dflt)))))) *
  (256 : Int))) |||
  BitVec.ofInt 64
  (IntKind.wrap IntKind.u64
  (U8.v
  (List.getD b
  (k + 1 + 1 + 0 +
  1)
  Enc.dflt))))))))
  (IntKind.wrap IntKind.i64
  (IntKind.wrap IntKind.u64
  (Int.ofNat
  (BitVec.toNat
  (BitVec.ofInt 64 (0 : Int) |||
  BitVec.ofInt 64
  (IntKind.wrap IntKind.u64
  (U8.v
  (List.getD b
  (k + 1 + 1 + 2 +
  0 +
  0)
  Enc.dflt))))))))
  (IntKind.wrap IntKind.i64
  (IntKind.wrap IntKind.u64
  (Int.ofNat
  (BitVec.toNat
  (BitVec.ofInt 64 (0 : Int) |||
  BitVec.ofInt 64
  (IntKind.wrap IntKind.u64
  (U8.v
  (List.getD b
  (k + 1 + 0 + 0)
  Enc.dflt))))))))
  (0 : Int)
  (Int.toNat
  (IntKind.wrap IntKind.u64
  (Int.ofNat
  (BitVec.toNat
  (BitVec.ofInt 64 (0 : Int) |||
  BitVec.ofInt 64
  (IntKind.wrap IntKind.u64
  (U8.v
  (List.getD b
  (k + 1 + 1 + 2 +
  1 +
  0 +
  0)
  Enc.dflt))))))))))))
  (br
  (IntKind.wrap IntKind.i64
  (IntKind.wrap IntKind.u64
  (Int.ofNat
  (BitVec.toNat
  (BitVec.ofInt 64 (0 : Int) |||
  BitVec.ofInt 64
  (IntKind.wrap IntKind.u64
  (U8.v
  (List.getD b
  (k + 1 + 0 + 0)
  Enc.dflt))))))) ==
  (2 : Int))
  (need (Nat.ble (List.length l + 1) 1000000)
  (need
  (true && Nat.ble (0 + List.length l) (List.length l))
  (onP N AX.normal
  (shpTkG b l c cl n
  (k + 1 + 1 + 2 + 1 +
  1)
  (m - 1 - 1 - 2 - 1 -
  1)
  (bif
  Nat.beq
  (m - 1 - 1 - 2 - 1)
  0 then
  bif
  Nat.beq (m - 1 - 1 - 2)
  0 then
  bif Nat.beq (m - 1 - 1) 0 then
  bif Nat.beq (m - 1) 0 then
  bif Nat.beq m 0 then cb else 0
  else 0
  else 0
  else 0
  else 0)
  (IntKind.wrap IntKind.i64
  (IntKind.wrap IntKind.u64
  (Int.ofNat
  (BitVec.toNat
  (BitVec.ofInt 64 (0 : Int) |||
  BitVec.ofInt 64
  (IntKind.wrap IntKind.u64
  (U8.v
  (List.getD b (k + 0 + 0)
  Enc.dflt))))))))
  (IntKind.wrap IntKind.i64
  (IntKind.wrap IntKind.u64
  (Int.ofNat
  (BitVec.toNat
  (BitVec.ofInt 64 (0 : Int) |||
  BitVec.ofInt 64
  (IntKind.wrap IntKind.u64
  (U8.v
  (List.getD b
  (k + 1 + 0 + 0)
  Enc.dflt))))))))
  (IntKind.wrap IntKind.i64
  (IntKind.wrap IntKind.u64
  (Int.ofNat
  (BitVec.toNat
  (BitVec.ofInt 64
  (IntKind.wrap IntKind.u64
  (IntKind.wrap IntKind.u64
  (Int.ofNat
  (BitVec.toNat
  (BitVec.ofInt 64 (0 : Int) |||
  BitVec.ofInt 64
  (IntKind.wrap IntKind.u64
  (U8.v
  (List.getD b
  (k + 1 + 1 +
  0 +
  0)
  Enc.dflt)))))) *
  (256 : Int))) |||
  BitVec.ofInt 64
  (IntKind.wrap IntKind.u64
  (U8.v
  (List.getD b
  (k + 1 + 1 + 0 +
  1)
  Enc.dflt))))))))
  (IntKind.wrap IntKind.i64
  (IntKind.wrap IntKind.u64
  (Int.ofNat
  (BitVec.toNat
  (BitVec.ofInt 64 (0 : Int) |||
  BitVec.ofInt 64
  (IntKind.wrap IntKind.u64
  (U8.v
  (List.getD b
  (k + 1 + 1 + 2 +
  0 +
  0)
  Enc.dflt))))))))
  (IntKind.wrap IntKind.i64
  (IntKind.wrap IntKind.u64
  (Int.ofNat
  (BitVec.toNat
  (BitVec.ofInt 64 (0 : Int) |||
  BitVec.ofInt 64
  (IntKind.wrap IntKind.u64
  (U8.v
  (List.getD b
  (k + 1 + 0 + 0)
  Enc.dflt))))))))
  (IntKind.wrap IntKind.i64
  (IntKind.wrap IntKind.i16
  (IntKind.wrap IntKind.u64
  (Int.ofNat
  (BitVec.toNat
  (BitVec.ofInt 64 (0 : Int) |||
  BitVec.ofInt 64
  (IntKind.wrap IntKind.u64
  (U8.v
  (List.getD b
  (k + 1 + 1 + 2 +
  1 +
  0 +
  0)
  Enc.dflt)))))))))
  0))))
  (br
  (IntKind.wrap IntKind.i64
  (IntKind.wrap IntKind.u64
  (Int.ofNat
  (BitVec.toNat
  (BitVec.ofInt 64 (0 : Int) |||
  BitVec.ofInt 64
  (IntKind.wrap IntKind.u64
  (U8.v
  (List.getD b
  (k + 1 + 0 + 0)
  Enc.dflt))))))) ==
  (3 : Int))
  (need (Nat.ble (List.length l + 1) 1000000)
  (need
  (true && Nat.ble (0 + List.length l) (List.length l))
  (onP N AX.normal
  (shpTkG b l c cl n
  (k + 1 + 1 + 2 + 1 +
  1)
  (m - 1 - 1 - 2 - 1 -
  1)
  (bif
  Nat.beq
  (m - 1 - 1 - 2 - 1)
  0 then
  bif
  Nat.beq (m - 1 - 1 - 2)
  0 then
  bif Nat.beq (m - 1 - 1) 0 then
  bif Nat.beq (m - 1) 0 then
  bif Nat.beq m 0 then cb else 0
  else 0
  else 0
  else 0
  else 0)
  (IntKind.wrap IntKind.i64
  (IntKind.wrap IntKind.u64
  (Int.ofNat
  (BitVec.toNat
  (BitVec.ofInt 64 (0 : Int) |||
  BitVec.ofInt 64
  (IntKind.wrap IntKind.u64
  (U8.v
  (List.getD b (k + 0 + 0)
  Enc.dflt))))))))
  (IntKind.wrap IntKind.i64
  (IntKind.wrap IntKind.u64
  (Int.ofNat
  (BitVec.toNat
  (BitVec.ofInt 64 (0 : Int) |||
  BitVec.ofInt 64
  (IntKind.wrap IntKind.u64
  (U8.v
  (List.getD b
  (k + 1 + 0 + 0)
  Enc.dflt))))))))
  (IntKind.wrap IntKind.i64
  (IntKind.wrap IntKind.u64
  (Int.ofNat
  (BitVec.toNat
  (BitVec.ofInt 64
  (IntKind.wrap IntKind.u64
  (IntKind.wrap IntKind.u64
  (Int.ofNat
  (BitVec.toNat
  (BitVec.ofInt 64
  (0 : Int) |||
  BitVec.ofInt 64
  (IntKind.wrap IntKind.u64
  (U8.v
  (List.getD b
  (k + 1 +
  1 +
  0 +
  0)
  Enc.dflt)))))) *
  (256 : Int))) |||
  BitVec.ofInt 64
  (IntKind.wrap IntKind.u64
  (U8.v
  (List.getD b
  (k + 1 + 1 + 0 +
  1)
  Enc.dflt))))))))
  (IntKind.wrap IntKind.i64
  (IntKind.wrap IntKind.u64
  (Int.ofNat
  (BitVec.toNat
  (BitVec.ofInt 64 (0 : Int) |||
  BitVec.ofInt 64
  (IntKind.wrap IntKind.u64
  (U8.v
  (List.getD b
  (k + 1 + 1 + 2 +
  0 +
  0)
  Enc.dflt))))))))
  (IntKind.wrap IntKind.i64
  (IntKind.wrap IntKind.u64
  (Int.ofNat
  (BitVec.toNat
  (BitVec.ofInt 64 (0 : Int) |||
  BitVec.ofInt 64
  (IntKind.wrap IntKind.u64
  (U8.v
  (List.getD b
  (k + 1 + 0 + 0)
  Enc.dflt))))))))
  (IntKind.wrap IntKind.i64
  (IntKind.wrap IntKind.i32
  (IntKind.wrap IntKind.u64
  (Int.ofNat
  (BitVec.toNat
  (BitVec.ofInt 64 (0 : Int) |||
  BitVec.ofInt 64
  (IntKind.wrap IntKind.u64
  (U8.v
  (List.getD b
  (k + 1 + 1 +
  2 +
  1 +
  0 +
  0)
  Enc.dflt)))))))))
  0))))
  (need (Nat.ble (List.length l + 1) 1000000)
  (need
  (true && Nat.ble (0 + List.length l) (List.length l))
  (onP N AX.normal
  (shpTkG b l c cl n
  (k + 1 + 1 + 2 + 1 +
  1)
  (m - 1 - 1 - 2 - 1 -
  1)
  (bif
  Nat.beq
  (m - 1 - 1 - 2 - 1)
  0 then
  bif
  Nat.beq (m - 1 - 1 - 2)
  0 then
  bif Nat.beq (m - 1 - 1) 0 then
  bif Nat.beq (m - 1) 0 then
  bif Nat.beq m 0 then cb else 0
  else 0
  else 0
  else 0
  else 0)
  (IntKind.wrap IntKind.i64
  (IntKind.wrap IntKind.u64
  (Int.ofNat
  (BitVec.toNat
  (BitVec.ofInt 64 (0 : Int) |||
  BitVec.ofInt 64
  (IntKind.wrap IntKind.u64
  (U8.v
  (List.getD b (k + 0 + 0)
  Enc.dflt))))))))
  (IntKind.wrap IntKind.i64
  (IntKind.wrap IntKind.u64
  (Int.ofNat
  (BitVec.toNat
  (BitVec.ofInt 64 (0 : Int) |||
  BitVec.ofInt 64
  (IntKind.wrap IntKind.u64
  (U8.v
  (List.getD b
  (k + 1 + 0 + 0)
  Enc.dflt))))))))
  (IntKind.wrap IntKind.i64
  (IntKind.wrap IntKind.u64
  (Int.ofNat
  (BitVec.toNat
  (BitVec.ofInt 64
  (IntKind.wrap IntKind.u64
  (IntKind.wrap IntKind.u64
  (Int.ofNat
  (BitVec.toNat
  (BitVec.ofInt 64
  (0 : Int) |||
  BitVec.ofInt 64
  (IntKind.wrap IntKind.u64
  (U8.v
  (List.getD b
  (k + 1 +
  1 +
  0 +
  0)
  Enc.dflt)))))) *
  (256 : Int))) |||
  BitVec.ofInt 64
  (IntKind.wrap IntKind.u64
  (U8.v
  (List.getD b
  (k + 1 + 1 + 0 +
  1)
  Enc.dflt))))))))
  (IntKind.wrap IntKind.i64
  (IntKind.wrap IntKind.u64
  (Int.ofNat
  (BitVec.toNat
  (BitVec.ofInt 64 (0 : Int) |||
  BitVec.ofInt 64
  (IntKind.wrap IntKind.u64
  (U8.v
  (List.getD b
  (k + 1 + 1 + 2 +
  0 +
  0)
  Enc.dflt))))))))
  (IntKind.wrap IntKind.i64
  (IntKind.wrap IntKind.u64
  (Int.ofNat
  (BitVec.toNat
  (BitVec.ofInt 64 (0 : Int) |||
  BitVec.ofInt 64
  (IntKind.wrap IntKind.u64
  (U8.v
  (List.getD b
  (k + 1 + 0 + 0)
  Enc.dflt))))))))
  (IntKind.wrap IntKind.i64
  (IntKind.wrap IntKind.u64
  (Int.ofNat
  (BitVec.toNat
  (BitVec.ofInt 64 (0 : Int) |||
  BitVec.ofInt 64
  (IntKind.wrap IntKind.u64
  (U8.v
  (List.getD b
  (k + 1 + 1 + 2 +
  1 +
  0 +
  0)
  Enc.dflt))))))))
  0)))))))))))
  (br
  (IntKind.wrap IntKind.i64
  (IntKind.wrap IntKind.u64
  (Int.ofNat
  (BitVec.toNat
  (BitVec.ofInt 64 (0 : Int) |||
  BitVec.ofInt 64
  (IntKind.wrap IntKind.u64
  (U8.v
  (List.getD b (k + 1 + 0 + 0)
  Enc.dflt))))))) ==
  (2 : Int))
  (br
  (decide
  ((2 : Int) >
  Int.ofNat (m - 1 - 1 - 2 - 1)))
  (br
  (IntKind.wrap IntKind.i64
  (IntKind.wrap IntKind.u64
  (Int.ofNat
  (BitVec.toNat
  (BitVec.ofInt 64 (0 : Int) |||
  BitVec.ofInt 64
  (IntKind.wrap IntKind.u64
  (U8.v
  (List.getD b (k + 1 + 0 + 0)
  Enc.dflt))))))) ==
  (5 : Int))
  (need (Nat.ble (List.length l + 1) 1000000)
  (need (true && Nat.ble (0 + List.length l) (List.length l))
  (onP N AX.normal
  (shpTkB b l c cl n
  (IntKind.wrap IntKind.i64
  (IntKind.wrap IntKind.u64
  (Int.ofNat
  (BitVec.toNat
  (BitVec.ofInt 64 (0 : Int) |||
  BitVec.ofInt 64
  (IntKind.wrap IntKind.u64
  (U8.v
  (List.getD b (k + 0 + 0)
  Enc.dflt))))))))
  (IntKind.wrap IntKind.i64
  (IntKind.wrap IntKind.u64
  (Int.ofNat
  (BitVec.toNat
  (BitVec.ofInt 64 (0 : Int) |||
  BitVec.ofInt 64
  (IntKind.wrap IntKind.u64
  (U8.v
  (List.getD b
  (k + 1 + 0 + 0)
  Enc.dflt))))))))
  (IntKind.wrap IntKind.i64
  (IntKind.wrap IntKind.u64
  (Int.ofNat
  (BitVec.toNat
  (BitVec.ofInt 64
  (IntKind.wrap IntKind.u64
  (IntKind.wrap IntKind.u64
  (Int.ofNat
  (BitVec.toNat
  (BitVec.ofInt 64 (0 : Int) |||
  BitVec.ofInt 64
  (IntKind.wrap IntKind.u64
  (U8.v
  (List.getD b
  (k + 1 + 1 +
  0 +
  0)
  Enc.dflt)))))) *
  (256 : Int))) |||
  BitVec.ofInt 64
  (IntKind.wrap IntKind.u64
  (U8.v
  (List.getD b
  (k + 1 + 1 + 0 +
  1)
  Enc.dflt))))))))
  (IntKind.wrap IntKind.i64
  (IntKind.wrap IntKind.u64
  (Int.ofNat
  (BitVec.toNat
  (BitVec.ofInt 64 (0 : Int) |||
  BitVec.ofInt 64
  (IntKind.wrap IntKind.u64
  (U8.v
  (List.getD b
  (k + 1 + 1 + 2 +
  0 +
  0)
  Enc.dflt))))))))
  (IntKind.wrap IntKind.i64
  (IntKind.wrap IntKind.u64
  (Int.ofNat
  (BitVec.toNat
  (BitVec.ofInt 64 (0 : Int) |||
  BitVec.ofInt 64
  (IntKind.wrap IntKind.u64
  (U8.v
  (List.getD b
  (k + 1 + 0 + 0)
  Enc.dflt))))))))
  (0 : Int) 0))))
  (br
  (IntKind.wrap IntKind.i64
  (IntKind.wrap IntKind.u64
  (Int.ofNat
  (BitVec.toNat
  (BitVec.ofInt 64 (0 : Int) |||
  BitVec.ofInt 64
  (IntKind.wrap IntKind.u64
  (U8.v
  (List.getD b (k + 1 + 0 + 0)
  Enc.dflt))))))) ==
  (2 : Int))
  (need (Nat.ble (List.length l + 1) 1000000)
  (need (true && Nat.ble (0 + List.length l) (List.length l))
  (onP N AX.normal
  (shpTkB b l c cl n
  (IntKind.wrap IntKind.i64
  (IntKind.wrap IntKind.u64
  (Int.ofNat
  (BitVec.toNat
  (BitVec.ofInt 64 (0 : Int) |||
  BitVec.ofInt 64
  (IntKind.wrap IntKind.u64
  (U8.v
  (List.getD b (k + 0 + 0)
  Enc.dflt))))))))
  (IntKind.wrap IntKind.i64
  (IntKind.wrap IntKind.u64
  (Int.ofNat
  (BitVec.toNat
  (BitVec.ofInt 64 (0 : Int) |||
  BitVec.ofInt 64
  (IntKind.wrap IntKind.u64
  (U8.v
  (List.getD b
  (k + 1 + 0 + 0)
  Enc.dflt))))))))
  (IntKind.wrap IntKind.i64
  (IntKind.wrap IntKind.u64
  (Int.ofNat
  (BitVec.toNat
  (BitVec.ofInt 64
  (IntKind.wrap IntKind.u64
  (IntKind.wrap IntKind.u64
  (Int.ofNat
  (BitVec.toNat
  (BitVec.ofInt 64 (0 : Int) |||
  BitVec.ofInt 64
  (IntKind.wrap IntKind.u64
  (U8.v
  (List.getD b
  (k + 1 + 1 +
  0 +
  0)
  Enc.dflt)))))) *
  (256 : Int))) |||
  BitVec.ofInt 64
  (IntKind.wrap IntKind.u64
  (U8.v
  (List.getD b
  (k + 1 + 1 + 0 +
  1)
  Enc.dflt))))))))
  (IntKind.wrap IntKind.i64
  (IntKind.wrap IntKind.u64
  (Int.ofNat
  (BitVec.toNat
  (BitVec.ofInt 64 (0 : Int) |||
  BitVec.ofInt 64
  (IntKind.wrap IntKind.u64
  (U8.v
  (List.getD b
  (k + 1 + 1 + 2 +
  0 +
  0)
  Enc.dflt))))))))
  (IntKind.wrap IntKind.i64
  (IntKind.wrap IntKind.u64
  (Int.ofNat
  (BitVec.toNat
  (BitVec.ofInt 64 (0 : Int) |||
  BitVec.ofInt 64
  (IntKind.wrap IntKind.u64
  (U8.v
  (List.getD b
  (k + 1 + 0 + 0)
  Enc.dflt))))))))
  (0 : Int) 0))))
  (br
  (IntKind.wrap IntKind.i64
  (IntKind.wrap IntKind.u64
  (Int.ofNat
  (BitVec.toNat
  (BitVec.ofInt 64 (0 : Int) |||
  BitVec.ofInt 64
  (IntKind.wrap IntKind.u64
  (U8.v
  (List.getD b (k + 1 + 0 + 0)
  Enc.dflt))))))) ==
  (3 : Int))
  (need (Nat.ble (List.length l + 1) 1000000)
  (need (true && Nat.ble (0 + List.length l) (List.length l))
  (onP N AX.normal
  (shpTkB b l c cl n
  (IntKind.wrap IntKind.i64
  (IntKind.wrap IntKind.u64
  (Int.ofNat
  (BitVec.toNat
  (BitVec.ofInt 64 (0 : Int) |||
  BitVec.ofInt 64
  (IntKind.wrap IntKind.u64
  (U8.v
  (List.getD b (k + 0 + 0)
  Enc.dflt))))))))
  (IntKind.wrap IntKind.i64
  (IntKind.wrap IntKind.u64
  (Int.ofNat
  (BitVec.toNat
  (BitVec.ofInt 64 (0 : Int) |||
  BitVec.ofInt 64
  (IntKind.wrap IntKind.u64
  (U8.v
  (List.getD b
  (k + 1 + 0 + 0)
  Enc.dflt))))))))
  (IntKind.wrap IntKind.i64
  (IntKind.wrap IntKind.u64
  (Int.ofNat
  (BitVec.toNat
  (BitVec.ofInt 64
  (IntKind.wrap IntKind.u64
  (IntKind.wrap IntKind.u64
  (Int.ofNat
  (BitVec.toNat
  (BitVec.ofInt 64 (0 : Int) |||
  BitVec.ofInt 64
  (IntKind.wrap IntKind.u64
  (U8.v
  (List.getD b
  (k + 1 + 1 +
  0 +
  0)
  Enc.dflt)))))) *
  (256 : Int))) |||
  BitVec.ofInt 64
  (IntKind.wrap IntKind.u64
  (U8.v
  (List.getD b
  (k + 1 + 1 + 0 +
  1)
  Enc.dflt))))))))
  (IntKind.wrap IntKind.i64
  (IntKind.wrap IntKind.u64
  (Int.ofNat
  (BitVec.toNat
  (BitVec.ofInt 64 (0 : Int) |||
  BitVec.ofInt 64
  (IntKind.wrap IntKind.u64
  (U8.v
  (List.getD b
  (k + 1 + 1 + 2 +
  0 +
  0)
  Enc.dflt))))))))
  (IntKind.wrap IntKind.i64
  (IntKind.wrap IntKind.u64
  (Int.ofNat
  (BitVec.toNat
  (BitVec.ofInt 64 (0 : Int) |||
  BitVec.ofInt 64
  (IntKind.wrap IntKind.u64
  (U8.v
  (List.getD b
  (k + 1 + 0 + 0)
  Enc.dflt))))))))
  (0 : Int) 0))))
  (need (Nat.ble (List.length l + 1) 1000000)
  (need (true && Nat.ble (0 + List.length l) (List.length l))
  (onP N AX.normal
  (shpTkB b l c cl n
  (IntKind.wrap IntKind.i64
  (IntKind.wrap IntKind.u64
  (Int.ofNat
  (BitVec.toNat
  (BitVec.ofInt 64 (0 : Int) |||
  BitVec.ofInt 64
  (IntKind.wrap IntKind.u64
  (U8.v
  (List.getD b (k + 0 + 0)
  Enc.dflt))))))))
  (IntKind.wrap IntKind.i64
  (IntKind.wrap IntKind.u64
  (Int.ofNat
  (BitVec.toNat
  (BitVec.ofInt 64 (0 : Int) |||
  BitVec.ofInt 64
  (IntKind.wrap IntKind.u64
  (U8.v
  (List.getD b
  (k + 1 + 0 + 0)
  Enc.dflt))))))))
  (IntKind.wrap IntKind.i64
  (IntKind.wrap IntKind.u64
  (Int.ofNat
  (BitVec.toNat
  (BitVec.ofInt 64
  (IntKind.wrap IntKind.u64
  (IntKind.wrap IntKind.u64
  (Int.ofNat
  (BitVec.toNat
  (BitVec.ofInt 64 (0 : Int) |||
  BitVec.ofInt 64
  (IntKind.wrap IntKind.u64
  (U8.v
  (List.getD b
  (k + 1 + 1 +
  0 +
  0)
  Enc.dflt)))))) *
  (256 : Int))) |||
  BitVec.ofInt 64
  (IntKind.wrap IntKind.u64
  (U8.v
  (List.getD b
  (k + 1 + 1 + 0 +
  1)
  Enc.dflt))))))))
  (IntKind.wrap IntKind.i64
  (IntKind.wrap IntKind.u64
  (Int.ofNat
  (BitVec.toNat
  (BitVec.ofInt 64 (0 : Int) |||
  BitVec.ofInt 64
  (IntKind.wrap IntKind.u64
  (U8.v
  (List.getD b
  (k + 1 + 1 + 2 +
  0 +
  0)
  Enc.dflt))))))))
  (IntKind.wrap IntKind.i64
  (IntKind.wrap IntKind.u64
  (Int.ofNat
  (BitVec.toNat
  (BitVec.ofInt 64 (0 : Int) |||
  BitVec.ofInt 64
  (IntKind.wrap IntKind.u64
  (U8.v
  (List.getD b
  (k + 1 + 0 + 0)
  Enc.dflt))))))))
  (0 : Int) 0)))))))
  (need
  (Nat.ble 2 (m - 1 - 1 - 2 - 1))
  (need
  (Nat.ble 0
  (k + 1 + 1 + 2 + 1 + 0 +
  0) &&
  Nat.blt
  (k + 1 + 1 + 2 + 1 + 0 +
  0)
  (List.length b))
  (need
  (Nat.ble 0
  (k + 1 + 1 + 2 + 1 + 0 +
  1) &&
  Nat.blt
  (k + 1 + 1 + 2 + 1 + 0 +
  1)
  (List.length b))
  (need
  (Nat.ble 2
  (m - 1 - 1 - 2 - 1))
  (br
  (IntKind.wrap IntKind.i64
  (IntKind.wrap IntKind.u64
  (Int.ofNat
  (BitVec.toNat
  (BitVec.ofInt 64 (0 : Int) |||
  BitVec.ofInt 64
  (IntKind.wrap IntKind.u64
  (U8.v
  (List.getD b
  (k + 1 + 0 + 0)
  Enc.dflt))))))) ==
  (5 : Int))
  (need (Nat.ble (List.length l + 1) 1000000)
  (need
  (true && Nat.ble (0 + List.length l) (List.length l))
  (onP N AX.normal
  (shpTkG b l c cl n
  (k + 1 + 1 + 2 + 1 +
  2)
  (m - 1 - 1 - 2 - 1 -
  2)
  (bif
  Nat.beq
  (m - 1 - 1 - 2 - 1)
  0 then
  bif
  Nat.beq (m - 1 - 1 - 2)
  0 then
  bif Nat.beq (m - 1 - 1) 0 then
  bif Nat.beq (m - 1) 0 then
  bif Nat.beq m 0 then cb else 0
  else 0
  else 0
  else 0
  else 0)
  (IntKind.wrap IntKind.i64
  (IntKind.wrap IntKind.u64
  (Int.ofNat
  (BitVec.toNat
  (BitVec.ofInt 64 (0 : Int) |||
  BitVec.ofInt 64
  (IntKind.wrap IntKind.u64
  (U8.v
  (List.getD b (k + 0 + 0)
  Enc.dflt))))))))
  (IntKind.wrap IntKind.i64
  (IntKind.wrap IntKind.u64
  (Int.ofNat
  (BitVec.toNat
  (BitVec.ofInt 64 (0 : Int) |||
  BitVec.ofInt 64
  (IntKind.wrap IntKind.u64
  (U8.v
  (List.getD b
  (k + 1 + 0 + 0)
  Enc.dflt))))))))
  (IntKind.wrap IntKind.i64
  (IntKind.wrap IntKind.u64
  (Int.ofNat
  (BitVec.toNat
  (BitVec.ofInt 64
  (IntKind.wrap IntKind.u64
  (IntKind.wrap IntKind.u64
  (Int.ofNat
  (BitVec.toNat
  (BitVec.ofInt 64
  (0 : Int) |||
  BitVec.ofInt 64
  (IntKind.wrap IntKind.u64
  (U8.v
  (List.getD b
  (k + 1 +
  1 +
  0 +
  0)
  Enc.dflt)))))) *
  (256 : Int))) |||
  BitVec.ofInt 64
  (IntKind.wrap IntKind.u64
  (U8.v
  (List.getD b
  (k + 1 + 1 + 0 +
  1)
  Enc.dflt))))))))
  (IntKind.wrap IntKind.i64
  (IntKind.wrap IntKind.u64
  (Int.ofNat
  (BitVec.toNat
  (BitVec.ofInt 64 (0 : Int) |||
  BitVec.ofInt 64
  (IntKind.wrap IntKind.u64
  (U8.v
  (List.getD b
  (k + 1 + 1 + 2 +
  0 +
  0)
  Enc.dflt))))))))
  (IntKind.wrap IntKind.i64
  (IntKind.wrap IntKind.u64
  (Int.ofNat
  (BitVec.toNat
  (BitVec.ofInt 64 (0 : Int) |||
  BitVec.ofInt 64
  (IntKind.wrap IntKind.u64
  (U8.v
  (List.getD b
  (k + 1 + 0 + 0)
  Enc.dflt))))))))
  (0 : Int)
  (Int.toNat
  (IntKind.wrap IntKind.u64
  (Int.ofNat
  (BitVec.toNat
  (BitVec.ofInt 64
  (IntKind.wrap IntKind.u64
  (IntKind.wrap IntKind.u64
  (Int.ofNat
  (BitVec.toNat
  (BitVec.ofInt 64
  (0 : Int) |||
  BitVec.ofInt 64
  (IntKind.wrap IntKind.u64
  (U8.v
  (List.getD b
  (k + 1 +
  1 +
  2 +
  1 +
  0 +
  0)
  Enc.dflt)))))) *
  (256 : Int))) |||
  BitVec.ofInt 64
  (IntKind.wrap IntKind.u64
  (U8.v
  (List.getD b
  (k + 1 + 1 + 2 +
  1 +
  0 +
  1)
  Enc.dflt))))))))))))
  (br
  (IntKind.wrap IntKind.i64
  (IntKind.wrap IntKind.u64
  (Int.ofNat
  (BitVec.toNat
  (BitVec.ofInt 64 (0 : Int) |||
  BitVec.ofInt 64
  (IntKind.wrap IntKind.u64
  (U8.v
  (List.getD b
  (k + 1 + 0 + 0)
  Enc.dflt))))))) ==
  (2 : Int))
  (need (Nat.ble (List.length l + 1) 1000000)
  (need
  (true &&
  Nat.ble (0 + List.length l) (List.length l))
  (onP N AX.normal
  (shpTkG b l c cl n
  (k + 1 + 1 + 2 + 1 +
  2)
  (m - 1 - 1 - 2 - 1 -
  2)
  (bif
  Nat.beq
  (m - 1 - 1 - 2 -
  1)
  0 then
  bif
  Nat.beq (m - 1 - 1 - 2)
  0 then
  bif
  Nat.beq (m - 1 - 1)
  0 then
  bif Nat.beq (m - 1) 0 then
  bif Nat.beq m 0 then cb else 0
  else 0
  else 0
  else 0
  else 0)
  (IntKind.wrap IntKind.i64
  (IntKind.wrap IntKind.u64
  (Int.ofNat
  (BitVec.toNat
  (BitVec.ofInt 64 (0 : Int) |||
  BitVec.ofInt 64
  (IntKind.wrap IntKind.u64
  (U8.v
  (List.getD b (k + 0 + 0)
  Enc.dflt))))))))
  (IntKind.wrap IntKind.i64
  (IntKind.wrap IntKind.u64
  (Int.ofNat
  (BitVec.toNat
  (BitVec.ofInt 64 (0 : Int) |||
  BitVec.ofInt 64
  (IntKind.wrap IntKind.u64
  (U8.v
  (List.getD b
  (k + 1 + 0 +
  0)
  Enc.dflt))))))))
  (IntKind.wrap IntKind.i64
  (IntKind.wrap IntKind.u64
  (Int.ofNat
  (BitVec.toNat
  (BitVec.ofInt 64
  (IntKind.wrap IntKind.u64
  (IntKind.wrap IntKind.u64
  (Int.ofNat
  (BitVec.toNat
  (BitVec.ofInt 64
  (0 : Int) |||
  BitVec.ofInt 64
  (IntKind.wrap IntKind.u64
  (U8.v
  (List.getD b
  (k + 1 +
  1 +
  0 +
  0)
  Enc.dflt)))))) *
  (256 : Int))) |||
  BitVec.ofInt 64
  (IntKind.wrap IntKind.u64
  (U8.v
  (List.getD b
  (k + 1 + 1 +
  0 +
  1)
  Enc.dflt))))))))
  (IntKind.wrap IntKind.i64
  (IntKind.wrap IntKind.u64
  (Int.ofNat
  (BitVec.toNat
  (BitVec.ofInt 64 (0 : Int) |||
  BitVec.ofInt 64
  (IntKind.wrap IntKind.u64
  (U8.v
  (List.getD b
  (k + 1 + 1 +
  2 +
  0 +
  0)
  Enc.dflt))))))))
  (IntKind.wrap IntKind.i64
  (IntKind.wrap IntKind.u64
  (Int.ofNat
  (BitVec.toNat
  (BitVec.ofInt 64 (0 : Int) |||
  BitVec.ofInt 64
  (IntKind.wrap IntKind.u64
  (U8.v
  (List.getD b
  (k + 1 + 0 +
  0)
  Enc.dflt))))))))
  (IntKind.wrap IntKind.i64
  (IntKind.wrap IntKind.i16
  (IntKind.wrap IntKind.u64
  (Int.ofNat
  (BitVec.toNat
  (BitVec.ofInt 64
  (IntKind.wrap IntKind.u64
  (IntKind.wrap IntKind.u64
  (Int.ofNat
  (BitVec.toNat
  (BitVec.ofInt 64
  (0 : Int) |||
  BitVec.ofInt 64
  (IntKind.wrap IntKind.u64
  (U8.v
  (List.getD b
  (k + 1 +
  1 +
  2 +
  1 +
  0 +
  0)
  Enc.dflt)))))) *
  (256 : Int))) |||
  BitVec.ofInt 64
  (IntKind.wrap IntKind.u64
  (U8.v
  (List.getD b
  (k + 1 + 1 +
  2 +
  1 +
  0 +
  1)
  Enc.dflt)))))))))
  0))))
  (br
  (IntKind.wrap IntKind.i64
  (IntKind.wrap IntKind.u64
  (Int.ofNat
  (BitVec.toNat
  (BitVec.ofInt 64 (0 : Int) |||
  BitVec.ofInt 64
  (IntKind.wrap IntKind.u64
  (U8.v
  (List.getD b
  (k + 1 + 0 + 0)
  Enc.dflt))))))) ==
  (3 : Int))
  (need (Nat.ble (List.length l + 1) 1000000)
  (need
  (true &&
  Nat.ble (0 + List.length l) (List.length l))
  (onP N AX.normal
  (shpTkG b l c cl n
  (k + 1 + 1 + 2 + 1 +
  2)
  (m - 1 - 1 - 2 - 1 -
  2)
  (bif
  Nat.beq
  (m - 1 - 1 - 2 -
  1)
  0 then
  bif
  Nat.beq (m - 1 - 1 - 2)
  0 then
  bif
  Nat.beq (m - 1 - 1)
  0 then
  bif Nat.beq (m - 1) 0 then
  bif Nat.beq m 0 then cb else 0
  else 0
  else 0
  else 0
  else 0)
  (IntKind.wrap IntKind.i64
  (IntKind.wrap IntKind.u64
  (Int.ofNat
  (BitVec.toNat
  (BitVec.ofInt 64 (0 : Int) |||
  BitVec.ofInt 64
  (IntKind.wrap IntKind.u64
  (U8.v
  (List.getD b
  (k + 0 + 0)
  Enc.dflt))))))))
  (IntKind.wrap IntKind.i64
  (IntKind.wrap IntKind.u64
  (Int.ofNat
  (BitVec.toNat
  (BitVec.ofInt 64 (0 : Int) |||
  BitVec.ofInt 64
  (IntKind.wrap IntKind.u64
  (U8.v
  (List.getD b
  (k + 1 + 0 +
  0)
  Enc.dflt))))))))
  (IntKind.wrap IntKind.i64
  (IntKind.wrap IntKind.u64
  (Int.ofNat
  (BitVec.toNat
  (BitVec.ofInt 64
  (IntKind.wrap IntKind.u64
  (IntKind.wrap IntKind.u64
  (Int.ofNat
  (BitVec.toNat
  (BitVec.ofInt 64
  (0 : Int) |||
  BitVec.ofInt 64
  (IntKind.wrap IntKind.u64
  (U8.v
  (List.getD b
  (k + 1 +
  1 +
  0 +
  0)
  Enc.dflt)))))) *
  (256 : Int))) |||
  BitVec.ofInt 64
  (IntKind.wrap IntKind.u64
  (U8.v
  (List.getD b
  (k + 1 + 1 +
  0 +
  1)
  Enc.dflt))))))))
  (IntKind.wrap IntKind.i64
  (IntKind.wrap IntKind.u64
  (Int.ofNat
  (BitVec.toNat
  (BitVec.ofInt 64 (0 : Int) |||
  BitVec.ofInt 64
  (IntKind.wrap IntKind.u64
  (U8.v
  (List.getD b
  (k + 1 + 1 +
  2 +
  0 +
  0)
  Enc.dflt))))))))
  (IntKind.wrap IntKind.i64
  (IntKind.wrap IntKind.u64
  (Int.ofNat
  (BitVec.toNat
  (BitVec.ofInt 64 (0 : Int) |||
  BitVec.ofInt 64
  (IntKind.wrap IntKind.u64
  (U8.v
  (List.getD b
  (k + 1 + 0 +
  0)
  Enc.dflt))))))))
  (IntKind.wrap IntKind.i64
  (IntKind.wrap IntKind.i32
  (IntKind.wrap IntKind.u64
  (Int.ofNat
  (BitVec.toNat
  (BitVec.ofInt 64
  (IntKind.wrap IntKind.u64
  (IntKind.wrap IntKind.u64
  (Int.ofNat
  (BitVec.toNat
  (BitVec.ofInt 64
  (0 : Int) |||
  BitVec.ofInt 64
  (IntKind.wrap IntKind.u64
  (U8.v
  (List.getD b
  (k + 1 +
  (1 :
  Nat) +
  2 +
  1 +
  0 +
  0)
  Enc.dflt)))))) *
  (256 : Int))) |||
  BitVec.ofInt 64
  (IntKind.wrap IntKind.u64
  (U8.v
  (List.getD b
  (k + 1 + 1 +
  2 +
  1 +
  0 +
  1)
  Enc.dflt)))))))))
  0))))
  (need (Nat.ble (List.length l + 1) 1000000)
  (need
  (true &&
  Nat.ble (0 + List.length l) (List.length l))
  (onP N AX.normal
  (shpTkG b l c cl n
  (k + 1 + 1 + 2 + 1 +
  2)
  (m - 1 - 1 - 2 - 1 -
  2)
  (bif
  Nat.beq
  (m - 1 - 1 - 2 -
  1)
  0 then
  bif
  Nat.beq (m - 1 - 1 - 2)
  0 then
  bif
  Nat.beq (m - 1 - 1)
  0 then
  bif Nat.beq (m - 1) 0 then
  bif Nat.beq m 0 then cb else 0
  else 0
  else 0
  else 0
  else 0)
  (IntKind.wrap IntKind.i64
  (IntKind.wrap IntKind.u64
  (Int.ofNat
  (BitVec.toNat
  (BitVec.ofInt 64 (0 : Int) |||
  BitVec.ofInt 64
  (IntKind.wrap IntKind.u64
  (U8.v
  (List.getD b
  (k + 0 + 0)
  Enc.dflt))))))))
  (IntKind.wrap IntKind.i64
  (IntKind.wrap IntKind.u64
  (Int.ofNat
  (BitVec.toNat
  (BitVec.ofInt 64 (0 : Int) |||
  BitVec.ofInt 64
  (IntKind.wrap IntKind.u64
  (U8.v
  (List.getD b
  (k + 1 + 0 +
  0)
  Enc.dflt))))))))
  (IntKind.wrap IntKind.i64
  (IntKind.wrap IntKind.u64
  (Int.ofNat
  (BitVec.toNat
  (BitVec.ofInt 64
  (IntKind.wrap IntKind.u64
  (IntKind.wrap IntKind.u64
  (Int.ofNat
  (BitVec.toNat
  (BitVec.ofInt 64
  (0 : Int) |||
  BitVec.ofInt 64
  (IntKind.wrap IntKind.u64
  (U8.v
  (List.getD b
  (k + 1 +
  1 +
  0 +
  0)
  Enc.dflt)))))) *
  (256 : Int))) |||
  BitVec.ofInt 64
  (IntKind.wrap IntKind.u64
  (U8.v
  (List.getD b
  (k + 1 + 1 +
  0 +
  1)
  Enc.dflt))))))))
  (IntKind.wrap IntKind.i64
  (IntKind.wrap IntKind.u64
  (Int.ofNat
  (BitVec.toNat
  (BitVec.ofInt 64 (0 : Int) |||
  BitVec.ofInt 64
  (IntKind.wrap IntKind.u64
  (U8.v
  (List.getD b
  (k + 1 + 1 +
  2 +
  0 +
  0)
  Enc.dflt))))))))
  (IntKind.wrap IntKind.i64
  (IntKind.wrap IntKind.u64
  (Int.ofNat
  (BitVec.toNat
  (BitVec.ofInt 64 (0 : Int) |||
  BitVec.ofInt 64
  (IntKind.wrap IntKind.u64
  (U8.v
  (List.getD b
  (k + 1 + 0 +
  0)
  Enc.dflt))))))))
  (IntKind.wrap IntKind.i64
  (IntKind.wrap IntKind.u64
  (Int.ofNat
  (BitVec.toNat
  (BitVec.ofInt 64
  (IntKind.wrap IntKind.u64
  (IntKind.wrap IntKind.u64
  (Int.ofNat
  (BitVec.toNat
  (BitVec.ofInt 64
  (0 : Int) |||
  BitVec.ofInt 64
  (IntKind.wrap IntKind.u64
  (U8.v
  (List.getD b
  (k + 1 +
  1 +
  2 +
  1 +
  0 +
  0)
  Enc.dflt)))))) *
  (256 : Int))) |||
  BitVec.ofInt 64
  (IntKind.wrap IntKind.u64
  (U8.v
  (List.getD b
  (k + 1 + 1 +
  2 +
  1 +
  0 +
  1)
  Enc.dflt))))))))
  0))))))))))))
  (br
  (IntKind.wrap IntKind.i64
  (IntKind.wrap IntKind.u64
  (Int.ofNat
  (BitVec.toNat
  (BitVec.ofInt 64 (0 : Int) |||
  BitVec.ofInt 64
  (IntKind.wrap IntKind.u64
  (U8.v
  (List.getD b (k + 1 + 0 + 0)
  Enc.dflt))))))) ==
  (3 : Int))
  (br
  (decide
  ((4 : Int) >
  Int.ofNat (m - 1 - 1 - 2 - 1)))
  (br
  (IntKind.wrap IntKind.i64
  (IntKind.wrap IntKind.u64
  (Int.ofNat
  (BitVec.toNat
  (BitVec.ofInt 64 (0 : Int) |||
  BitVec.ofInt 64
  (IntKind.wrap IntKind.u64
  (U8.v
  (List.getD b (k + 1 + 0 + 0)
  Enc.dflt))))))) ==
  (5 : Int))
  (need (Nat.ble (List.length l + 1) 1000000)
  (need (true && Nat.ble (0 + List.length l) (List.length l))
  (onP N AX.normal
  (shpTkB b l c cl n
  (IntKind.wrap IntKind.i64
  (IntKind.wrap IntKind.u64
  (Int.ofNat
  (BitVec.toNat
  (BitVec.ofInt 64 (0 : Int) |||
  BitVec.ofInt 64
  (IntKind.wrap IntKind.u64
  (U8.v
  (List.getD b (k + 0 + 0)
  Enc.dflt))))))))
  (IntKind.wrap IntKind.i64
  (IntKind.wrap IntKind.u64
  (Int.ofNat
  (BitVec.toNat
  (BitVec.ofInt 64 (0 : Int) |||
  BitVec.ofInt 64
  (IntKind.wrap IntKind.u64
  (U8.v
  (List.getD b
  (k + 1 + 0 + 0)
  Enc.dflt))))))))
  (IntKind.wrap IntKind.i64
  (IntKind.wrap IntKind.u64
  (Int.ofNat
  (BitVec.toNat
  (BitVec.ofInt 64
  (IntKind.wrap IntKind.u64
  (IntKind.wrap IntKind.u64
  (Int.ofNat
  (BitVec.toNat
  (BitVec.ofInt 64 (0 : Int) |||
  BitVec.ofInt 64
  (IntKind.wrap IntKind.u64
  (U8.v
  (List.getD b
  (k + 1 + 1 +
  0 +
  0)
  Enc.dflt)))))) *
  (256 : Int))) |||
  BitVec.ofInt 64
  (IntKind.wrap IntKind.u64
  (U8.v
  (List.getD b
  (k + 1 + 1 + 0 +
  1)
  Enc.dflt))))))))
  (IntKind.wrap IntKind.i64
  (IntKind.wrap IntKind.u64
  (Int.ofNat
  (BitVec.toNat
  (BitVec.ofInt 64 (0 : Int) |||
  BitVec.ofInt 64
  (IntKind.wrap IntKind.u64
  (U8.v
  (List.getD b
  (k + 1 + 1 + 2 +
  0 +
  0)
  Enc.dflt))))))))
  (IntKind.wrap IntKind.i64
  (IntKind.wrap IntKind.u64
  (Int.ofNat
  (BitVec.toNat
  (BitVec.ofInt 64 (0 : Int) |||
  BitVec.ofInt 64
  (IntKind.wrap IntKind.u64
  (U8.v
  (List.getD b
  (k + 1 + 0 + 0)
  Enc.dflt))))))))
  (0 : Int) 0))))
  (br
  (IntKind.wrap IntKind.i64
  (IntKind.wrap IntKind.u64
  (Int.ofNat
  (BitVec.toNat
  (BitVec.ofInt 64 (0 : Int) |||
  BitVec.ofInt 64
  (IntKind.wrap IntKind.u64
  (U8.v
  (List.getD b (k + 1 + 0 + 0)
  Enc.dflt))))))) ==
  (2 : Int))
  (need (Nat.ble (List.length l + 1) 1000000)
  (need (true && Nat.ble (0 + List.length l) (List.length l))
  (onP N AX.normal
  (shpTkB b l c cl n
  (IntKind.wrap IntKind.i64
  (IntKind.wrap IntKind.u64
  (Int.ofNat
  (BitVec.toNat
  (BitVec.ofInt 64 (0 : Int) |||
  BitVec.ofInt 64
  (IntKind.wrap IntKind.u64
  (U8.v
  (List.getD b (k + 0 + 0)
  Enc.dflt))))))))
  (IntKind.wrap IntKind.i64
  (IntKind.wrap IntKind.u64
  (Int.ofNat
  (BitVec.toNat
  (BitVec.ofInt 64 (0 : Int) |||
  BitVec.ofInt 64
  (IntKind.wrap IntKind.u64
  (U8.v
  (List.getD b
  (k + 1 + 0 + 0)
  Enc.dflt))))))))
  (IntKind.wrap IntKind.i64
  (IntKind.wrap IntKind.u64
  (Int.ofNat
  (BitVec.toNat
  (BitVec.ofInt 64
  (IntKind.wrap IntKind.u64
  (IntKind.wrap IntKind.u64
  (Int.ofNat
  (BitVec.toNat
  (BitVec.ofInt 64 (0 : Int) |||
  BitVec.ofInt 64
  (IntKind.wrap IntKind.u64
  (U8.v
  (List.getD b
  (k + 1 + 1 +
  0 +
  0)
  Enc.dflt)))))) *
  (256 : Int))) |||
  BitVec.ofInt 64
  (IntKind.wrap IntKind.u64
  (U8.v
  (List.getD b
  (k + 1 + 1 + 0 +
  1)
  Enc.dflt))))))))
  (IntKind.wrap IntKind.i64
  (IntKind.wrap IntKind.u64
  (Int.ofNat
  (BitVec.toNat
  (BitVec.ofInt 64 (0 : Int) |||
  BitVec.ofInt 64
  (IntKind.wrap IntKind.u64
  (U8.v
  (List.getD b
  (k + 1 + 1 + 2 +
  0 +
  0)
  Enc.dflt))))))))
  (IntKind.wrap IntKind.i64
  (IntKind.wrap IntKind.u64
  (Int.ofNat
  (BitVec.toNat
  (BitVec.ofInt 64 (0 : Int) |||
  BitVec.ofInt 64
  (IntKind.wrap IntKind.u64
  (U8.v
  (List.getD b
  (k + 1 + 0 + 0)
  Enc.dflt))))))))
  (0 : Int) 0))))
  (br
  (IntKind.wrap IntKind.i64
  (IntKind.wrap IntKind.u64
  (Int.ofNat
  (BitVec.toNat
  (BitVec.ofInt 64 (0 : Int) |||
  BitVec.ofInt 64
  (IntKind.wrap IntKind.u64
  (U8.v
  (List.getD b
  (k + 1 + 0 + 0)
  Enc.dflt))))))) ==
  (3 : Int))
  (need (Nat.ble (List.length l + 1) 1000000)
  (need
  (true && Nat.ble (0 + List.length l) (List.length l))
  (onP N AX.normal
  (shpTkB b l c cl n
  (IntKind.wrap IntKind.i64
  (IntKind.wrap IntKind.u64
  (Int.ofNat
  (BitVec.toNat
  (BitVec.ofInt 64 (0 : Int) |||
  BitVec.ofInt 64
  (IntKind.wrap IntKind.u64
  (U8.v
  (List.getD b (k + 0 + 0)
  Enc.dflt))))))))
  (IntKind.wrap IntKind.i64
  (IntKind.wrap IntKind.u64
  (Int.ofNat
  (BitVec.toNat
  (BitVec.ofInt 64 (0 : Int) |||
  BitVec.ofInt 64
  (IntKind.wrap IntKind.u64
  (U8.v
  (List.getD b
  (k + 1 + 0 + 0)
  Enc.dflt))))))))
  (IntKind.wrap IntKind.i64
  (IntKind.wrap IntKind.u64
  (Int.ofNat
  (BitVec.toNat
  (BitVec.ofInt 64
  (IntKind.wrap IntKind.u64
  (IntKind.wrap IntKind.u64
  (Int.ofNat
  (BitVec.toNat
  (BitVec.ofInt 64 (0 : Int) |||
  BitVec.ofInt 64
  (IntKind.wrap IntKind.u64
  (U8.v
  (List.getD b
  (k + 1 + 1 +
  0 +
  0)
  Enc.dflt)))))) *
  (256 : Int))) |||
  BitVec.ofInt 64
  (IntKind.wrap IntKind.u64
  (U8.v
  (List.getD b
  (k + 1 + 1 + 0 +
  1)
  Enc.dflt))))))))
  (IntKind.wrap IntKind.i64
  (IntKind.wrap IntKind.u64
  (Int.ofNat
  (BitVec.toNat
  (BitVec.ofInt 64 (0 : Int) |||
  BitVec.ofInt 64
  (IntKind.wrap IntKind.u64
  (U8.v
  (List.getD b
  (k + 1 + 1 + 2 +
  0 +
  0)
  Enc.dflt))))))))
  (IntKind.wrap IntKind.i64
  (IntKind.wrap IntKind.u64
  (Int.ofNat
  (BitVec.toNat
  (BitVec.ofInt 64 (0 : Int) |||
  BitVec.ofInt 64
  (IntKind.wrap IntKind.u64
  (U8.v
  (List.getD b
  (k + 1 + 0 + 0)
  Enc.dflt))))))))
  (0 : Int) 0))))
  (need (Nat.ble (List.length l + 1) 1000000)
  (need
  (true && Nat.ble (0 + List.length l) (List.length l))
  (onP N AX.normal
  (shpTkB b l c cl n
  (IntKind.wrap IntKind.i64
  (IntKind.wrap IntKind.u64
  (Int.ofNat
  (BitVec.toNat
  (BitVec.ofInt 64 (0 : Int) |||
  BitVec.ofInt 64
  (IntKind.wrap IntKind.u64
  (U8.v
  (List.getD b (k + 0 + 0)
  Enc.dflt))))))))
  (IntKind.wrap IntKind.i64
  (IntKind.wrap IntKind.u64
  (Int.ofNat
  (BitVec.toNat
  (BitVec.ofInt 64 (0 : Int) |||
  BitVec.ofInt 64
  (IntKind.wrap IntKind.u64
  (U8.v
  (List.getD b
  (k + 1 + 0 + 0)
  Enc.dflt))))))))
  (IntKind.wrap IntKind.i64
  (IntKind.wrap IntKind.u64
  (Int.ofNat
  (BitVec.toNat
  (BitVec.ofInt 64
  (IntKind.wrap IntKind.u64
  (IntKind.wrap IntKind.u64
  (Int.ofNat
  (BitVec.toNat
  (BitVec.ofInt 64 (0 : Int) |||
  BitVec.ofInt 64
  (IntKind.wrap IntKind.u64
  (U8.v
  (List.getD b
  (k + 1 + 1 +
  0 +
  0)
  Enc.dflt)))))) *
  (256 : Int))) |||
  BitVec.ofInt 64
  (IntKind.wrap IntKind.u64
  (U8.v
  (List.getD b
  (k + 1 + 1 + 0 +
  1)
  Enc.dflt))))))))
  (IntKind.wrap IntKind.i64
  (IntKind.wrap IntKind.u64
  (Int.ofNat
  (BitVec.toNat
  (BitVec.ofInt 64 (0 : Int) |||
  BitVec.ofInt 64
  (IntKind.wrap IntKind.u64
  (U8.v
  (List.getD b
  (k + 1 + 1 + 2 +
  0 +
  0)
  Enc.dflt))))))))
  (IntKind.wrap IntKind.i64
  (IntKind.wrap IntKind.u64
  (Int.ofNat
  (BitVec.toNat
  (BitVec.ofInt 64 (0 : Int) |||
  BitVec.ofInt 64
  (IntKind.wrap IntKind.u64
  (U8.v
  (List.getD b
  (k + 1 + 0 + 0)
  Enc.dflt))))))))
  (0 : Int) 0)))))))
  (need
  (Nat.ble 4 (m - 1 - 1 - 2 - 1))
  (need
  (Nat.ble 0
  (k + 1 + 1 + 2 + 1 + 0 +
  0) &&
  Nat.blt
  (k + 1 + 1 + 2 + 1 + 0 +
  0)
  (List.length b))
  (need
  (Nat.ble 0
  (k + 1 + 1 + 2 + 1 + 0 +
  1) &&
  Nat.blt
  (k + 1 + 1 + 2 + 1 + 0 +
  1)
  (List.length b))
  (need
  (Nat.ble 0
  (k + 1 + 1 + 2 + 1 +
  0 +
  2) &&
  Nat.blt
  (k + 1 + 1 + 2 + 1 +
  0 +
  2)
  (List.length b))
  (need
  (Nat.ble 0
  (k + 1 + 1 + 2 + 1 +
  0 +
  3) &&
  Nat.blt
  (k + 1 + 1 + 2 + 1 +
  0 +
  3)
  (List.length b))
  (need
  (Nat.ble 4
  (m - 1 - 1 - 2 - 1))
  (br
  (IntKind.wrap IntKind.i64
  (IntKind.wrap IntKind.u64
  (Int.ofNat
  (BitVec.toNat
  (BitVec.ofInt 64 (0 : Int) |||
  BitVec.ofInt 64
  (IntKind.wrap IntKind.u64
  (U8.v
  (List.getD b
  (k + 1 + 0 + 0)
  Enc.dflt))))))) ==
  (5 : Int))
  (need (Nat.ble (List.length l + 1) 1000000)
  (need
  (true &&
  Nat.ble (0 + List.length l) (List.length l))
  (onP N AX.normal
  (shpTkG b l c cl n
  (k + 1 + 1 + 2 + 1 +
  4)
  (m - 1 - 1 - 2 - 1 -
  4)
  (bif
  Nat.beq
  (m - 1 - 1 - 2 -
  1)
  0 then
  bif
  Nat.beq
  (m - 1 - 1 - 2)
  0 then
  bif
  Nat.beq (m - 1 - 1)
  0 then
  bif Nat.beq (m - 1) 0 then
  bif Nat.beq m 0 then cb
  else 0
  else 0
  else 0
  else 0
  else 0)
  (IntKind.wrap IntKind.i64
  (IntKind.wrap IntKind.u64
  (Int.ofNat
  (BitVec.toNat
  (BitVec.ofInt 64 (0 : Int) |||
  BitVec.ofInt 64
  (IntKind.wrap IntKind.u64
  (U8.v
  (List.getD b
  (k + 0 + 0)
  Enc.dflt))))))))
  (IntKind.wrap IntKind.i64
  (IntKind.wrap IntKind.u64
  (Int.ofNat
  (BitVec.toNat
  (BitVec.ofInt 64 (0 : Int) |||
  BitVec.ofInt 64
  (IntKind.wrap IntKind.u64
  (U8.v
  (List.getD b
  (k + 1 + 0 +
  0)
  Enc.dflt))))))))
  (IntKind.wrap IntKind.i64
  (IntKind.wrap IntKind.u64
  (Int.ofNat
  (BitVec.toNat
  (BitVec.ofInt 64
  (IntKind.wrap IntKind.u64
  (IntKind.wrap IntKind.u64
  (Int.ofNat
  (BitVec.toNat
  (BitVec.ofInt 64
  (0 : Int) |||
  BitVec.ofInt 64
  (IntKind.wrap IntKind.u64
  (U8.v
  (List.getD b
  (k + 1 +
  1 +
  0 +
  0)
  Enc.dflt)))))) *
  (256 : Int))) |||
  BitVec.ofInt 64
  (IntKind.wrap IntKind.u64
  (U8.v
  (List.getD b
  (k + 1 + 1 +
  0 +
  1)
  Enc.dflt))))))))
  (IntKind.wrap IntKind.i64
  (IntKind.wrap IntKind.u64
  (Int.ofNat
  (BitVec.toNat
  (BitVec.ofInt 64 (0 : Int) |||
  BitVec.ofInt 64
  (IntKind.wrap IntKind.u64
  (U8.v
  (List.getD b
  (k + 1 + 1 +
  2 +
  0 +
  0)
  Enc.dflt))))))))
  (IntKind.wrap IntKind.i64
  (IntKind.wrap IntKind.u64
  (Int.ofNat
  (BitVec.toNat
  (BitVec.ofInt 64 (0 : Int) |||
  BitVec.ofInt 64
  (IntKind.wrap IntKind.u64
  (U8.v
  (List.getD b
  (k + 1 + 0 +
  0)
  Enc.dflt))))))))
  (0 : Int)
  (Int.toNat
  (IntKind.wrap IntKind.u64
  (Int.ofNat
  (BitVec.toNat
  (BitVec.ofInt 64
  (IntKind.wrap IntKind.u64
  (IntKind.wrap IntKind.u64
  (Int.ofNat
  (BitVec.toNat
  (BitVec.ofInt 64
  (IntKind.wrap IntKind.u64
  (IntKind.wrap
  IntKind.u64
  (Int.ofNat
  (BitVec.toNat
  (BitVec.ofInt
  64
  (IntKind.wrap
  IntKind.u64
  (IntKind.wrap
  IntKind.u64
  (Int.ofNat
  (BitVec.toNat
  (BitVec.ofInt
  (64 :
  Nat)
  (0 :
  Int) |||
  BitVec.ofInt
  (64 :
  Nat)
  (IntKind.wrap
  IntKind.u64
  (U8.v
  (List.getD
  b
  (k +
  (1 :
  Nat) +
  (1 :
  Nat) +
  (2 :
  Nat) +
  (1 :
  Nat) +
  (0 :
  Nat) +
  (0 :
  Nat))
  Enc.dflt)))))) *
  (256 :
  Int))) |||
  BitVec.ofInt
  64
  (IntKind.wrap
  IntKind.u64
  (U8.v
  (List.getD
  b
  (k +
  (1 :
  Nat) +
  (1 :
  Nat) +
  (2 :
  Nat) +
  (1 :
  Nat) +
  (0 :
  Nat) +
  (1 :
  Nat))
  Enc.dflt)))))) *
  (256 : Int))) |||
  BitVec.ofInt 64
  (IntKind.wrap IntKind.u64
  (U8.v
  (List.getD b
  (k + 1 +
  (1 :
  Nat) +
  2 +
  1 +
  0 +
  2)
  Enc.dflt)))))) *
  (256 : Int))) |||
  BitVec.ofInt 64
  (IntKind.wrap IntKind.u64
  (U8.v
  (List.getD b
  (k + 1 + 1 +
  2 +
  1 +
  0 +
  3)
  Enc.dflt))))))))))))
  (br
  (IntKind.wrap IntKind.i64
  (IntKind.wrap IntKind.u64
  (Int.ofNat
  (BitVec.toNat
  (BitVec.ofInt 64 (0 : Int) |||
  BitVec.ofInt 64
  (IntKind.wrap IntKind.u64
  (U8.v
  (List.getD b
  (k + 1 + 0 +
  0)
  Enc.dflt))))))) ==
  (2 : Int))
  (need
  (Nat.ble (List.length l + 1) 1000000)
  (need
  (true &&
  Nat.ble (0 + List.length l) (List.length l))
  (onP N AX.normal
  (shpTkG b l c cl n
  (k + 1 + 1 + 2 +
  1 +
  4)
  (m - 1 - 1 - 2 -
  1 -
  4)
  (bif
  Nat.beq
  (m - 1 - 1 - 2 -
  1)
  0 then
  bif
  Nat.beq
  (m - 1 - 1 - 2)
  0 then
  bif
  Nat.beq (m - 1 - 1)
  0 then
  bif Nat.beq (m - 1) 0 then
  bif Nat.beq m 0 then cb
  else 0
  else 0
  else 0
  else 0
  else 0)
  (IntKind.wrap IntKind.i64
  (IntKind.wrap IntKind.u64
  (Int.ofNat
  (BitVec.toNat
  (BitVec.ofInt 64 (0 : Int) |||
  BitVec.ofInt 64
  (IntKind.wrap IntKind.u64
  (U8.v
  (List.getD b
  (k + 0 + 0)
  Enc.dflt))))))))
  (IntKind.wrap IntKind.i64
  (IntKind.wrap IntKind.u64
  (Int.ofNat
  (BitVec.toNat
  (BitVec.ofInt 64 (0 : Int) |||
  BitVec.ofInt 64
  (IntKind.wrap IntKind.u64
  (U8.v
  (List.getD b
  (k + 1 + 0 +
  0)
  Enc.dflt))))))))
  (IntKind.wrap IntKind.i64
  (IntKind.wrap IntKind.u64
  (Int.ofNat
  (BitVec.toNat
  (BitVec.ofInt 64
  (IntKind.wrap IntKind.u64
  (IntKind.wrap IntKind.u64
  (Int.ofNat
  (BitVec.toNat
  (BitVec.ofInt 64
  (0 : Int) |||
  BitVec.ofInt 64
  (IntKind.wrap
  IntKind.u64
  (U8.v
  (List.getD b
  (k + 1 +
  1 +
  0 +
  0)
  Enc.dflt)))))) *
  (256 : Int))) |||
  BitVec.ofInt 64
  (IntKind.wrap IntKind.u64
  (U8.v
  (List.getD b
  (k + 1 + 1 +
  0 +
  1)
  Enc.dflt))))))))
  (IntKind.wrap IntKind.i64
  (IntKind.wrap IntKind.u64
  (Int.ofNat
  (BitVec.toNat
  (BitVec.ofInt 64 (0 : Int) |||
  BitVec.ofInt 64
  (IntKind.wrap IntKind.u64
  (U8.v
  (List.getD b
  (k + 1 + 1 +
  2 +
  0 +
  0)
  Enc.dflt))))))))
  (IntKind.wrap IntKind.i64
  (IntKind.wrap IntKind.u64
  (Int.ofNat
  (BitVec.toNat
  (BitVec.ofInt 64 (0 : Int) |||
  BitVec.ofInt 64
  (IntKind.wrap IntKind.u64
  (U8.v
  (List.getD b
  (k + 1 + 0 +
  0)
  Enc.dflt))))))))
  (IntKind.wrap IntKind.i64
  (IntKind.wrap IntKind.i16
  (IntKind.wrap IntKind.u64
  (Int.ofNat
  (BitVec.toNat
  (BitVec.ofInt 64
  (IntKind.wrap IntKind.u64
  (IntKind.wrap IntKind.u64
  (Int.ofNat
  (BitVec.toNat
  (BitVec.ofInt 64
  (IntKind.wrap
  IntKind.u64
  (IntKind.wrap
  IntKind.u64
  (Int.ofNat
  (BitVec.toNat
  (BitVec.ofInt
  (64 :
  Nat)
  (IntKind.wrap
  IntKind.u64
  (IntKind.wrap
  IntKind.u64
  (Int.ofNat
  (BitVec.toNat
  (BitVec.ofInt
  (64 :
  Nat)
  (0 :
  Int) |||
  BitVec.ofInt
  (64 :
  Nat)
  (IntKind.wrap
  IntKind.u64
  (U8.v
  (List.getD
  b
  (k +
  (1 :
  Nat) +
  (1 :
  Nat) +
  (2 :
  Nat) +
  (1 :
  Nat) +
  (0 :
  Nat) +
  (0 :
  Nat))
  Enc.dflt)))))) *
  (256 :
  Int))) |||
  BitVec.ofInt
  (64 :
  Nat)
  (IntKind.wrap
  IntKind.u64
  (U8.v
  (List.getD
  b
  (k +
  (1 :
  Nat) +
  (1 :
  Nat) +
  (2 :
  Nat) +
  (1 :
  Nat) +
  (0 :
  Nat) +
  (1 :
  Nat))
  Enc.dflt)))))) *
  (256 : Int))) |||
  BitVec.ofInt 64
  (IntKind.wrap
  IntKind.u64
  (U8.v
  (List.getD b
  (k + 1 +
  (1 :
  Nat) +
  (2 :
  Nat) +
  (1 :
  Nat) +
  0 +
  2)
  Enc.dflt)))))) *
  (256 : Int))) |||
  BitVec.ofInt 64
  (IntKind.wrap IntKind.u64
  (U8.v
  (List.getD b
  (k + 1 + 1 +
  2 +
  1 +
  0 +
  3)
  Enc.dflt)))))))))
  0))))
  (br
  (IntKind.wrap IntKind.i64
  (IntKind.wrap IntKind.u64
  (Int.ofNat
  (BitVec.toNat
  (BitVec.ofInt 64 (0 : Int) |||
  BitVec.ofInt 64
  (IntKind.wrap IntKind.u64
  (U8.v
  (List.getD b
  (k + 1 + 0 +
  0)
  Enc.dflt))))))) ==
  (3 : Int))
  (need
  (Nat.ble (List.length l + 1) 1000000)
  (need
  (true &&
  Nat.ble (0 + List.length l)
  (List.length l))
  (onP N AX.normal
  (shpTkG b l c cl n
  (k + 1 + 1 + 2 +
  1 +
  4)
  (m - 1 - 1 - 2 -
  1 -
  4)
  (bif
  Nat.beq
  (m - 1 - 1 - 2 -
  1)
  0 then
  bif
  Nat.beq
  (m - 1 - 1 - 2)
  0 then
  bif
  Nat.beq (m - 1 - 1)
  0 then
  bif Nat.beq (m - 1) 0 then
  bif Nat.beq m 0 then cb
  else 0
  else 0
  else 0
  else 0
  else 0)
  (IntKind.wrap IntKind.i64
  (IntKind.wrap IntKind.u64
  (Int.ofNat
  (BitVec.toNat
  (BitVec.ofInt 64 (0 : Int) |||
  BitVec.ofInt 64
  (IntKind.wrap IntKind.u64
  (U8.v
  (List.getD b
  (k + 0 + 0)
  Enc.dflt))))))))
  (IntKind.wrap IntKind.i64
  (IntKind.wrap IntKind.u64
  (Int.ofNat
  (BitVec.toNat
  (BitVec.ofInt 64 (0 : Int) |||
  BitVec.ofInt 64
  (IntKind.wrap IntKind.u64
  (U8.v
  (List.getD b
  (k + 1 + 0 +
  0)
  Enc.dflt))))))))
  (IntKind.wrap IntKind.i64
  (IntKind.wrap IntKind.u64
  (Int.ofNat
  (BitVec.toNat
  (BitVec.ofInt 64
  (IntKind.wrap IntKind.u64
  (IntKind.wrap IntKind.u64
  (Int.ofNat
  (BitVec.toNat
  (BitVec.ofInt 64
  (0 : Int) |||
  BitVec.ofInt 64
  (IntKind.wrap
  IntKind.u64
  (U8.v
  (List.getD b
  (k + 1 +
  (1 :
  Nat) +
  0 +
  0)
  Enc.dflt)))))) *
  (256 : Int))) |||
  BitVec.ofInt 64
  (IntKind.wrap IntKind.u64
  (U8.v
  (List.getD b
  (k + 1 + 1 +
  0 +
  1)
  Enc.dflt))))))))
  (IntKind.wrap IntKind.i64
  (IntKind.wrap IntKind.u64
  (Int.ofNat
  (BitVec.toNat
  (BitVec.ofInt 64 (0 : Int) |||
  BitVec.ofInt 64
  (IntKind.wrap IntKind.u64
  (U8.v
  (List.getD b
  (k + 1 + 1 +
  2 +
  0 +
  0)
  Enc.dflt))))))))
  (IntKind.wrap IntKind.i64
  (IntKind.wrap IntKind.u64
  (Int.ofNat
  (BitVec.toNat
  (BitVec.ofInt 64 (0 : Int) |||
  BitVec.ofInt 64
  (IntKind.wrap IntKind.u64
  (U8.v
  (List.getD b
  (k + 1 + 0 +
  0)
  Enc.dflt))))))))
  (IntKind.wrap IntKind.i64
  (IntKind.wrap IntKind.i32
  (IntKind.wrap IntKind.u64
  (Int.ofNat
  (BitVec.toNat
  (BitVec.ofInt 64
  (IntKind.wrap IntKind.u64
  (IntKind.wrap IntKind.u64
  (Int.ofNat
  (BitVec.toNat
  (BitVec.ofInt 64
  (IntKind.wrap
  IntKind.u64
  (IntKind.wrap
  IntKind.u64
  (Int.ofNat
  (BitVec.toNat
  (BitVec.ofInt
  (64 :
  Nat)
  (IntKind.wrap
  IntKind.u64
  (IntKind.wrap
  IntKind.u64
  (Int.ofNat
  (BitVec.toNat
  (BitVec.ofInt
  (64 :
  Nat)
  (0 :
  Int) |||
  BitVec.ofInt
  (64 :
  Nat)
  (IntKind.wrap
  IntKind.u64
  (U8.v
  (List.getD
  b
  (k +
  (1 :
  Nat) +
  (1 :
  Nat) +
  (2 :
  Nat) +
  (1 :
  Nat) +
  (0 :
  Nat) +
  (0 :
  Nat))
  Enc.dflt)))))) *
  (256 :
  Int))) |||
  BitVec.ofInt
  (64 :
  Nat)
  (IntKind.wrap
  IntKind.u64
  (U8.v
  (List.getD
  b
  (k +
  (1 :
  Nat) +
  (1 :
  Nat) +
  (2 :
  Nat) +
  (1 :
  Nat) +
  (0 :
  Nat) +
  (1 :
  Nat))
  Enc.dflt)))))) *
  (256 :
  Int))) |||
  BitVec.ofInt
  64
  (IntKind.wrap
  IntKind.u64
  (U8.v
  (List.getD b
  (k +
  (1 :
  Nat) +
  (1 :
  Nat) +
  (2 :
  Nat) +
  (1 :
  Nat) +
  (0 :
  Nat) +
  2)
  Enc.dflt)))))) *
  (256 : Int))) |||
  BitVec.ofInt 64
  (IntKind.wrap IntKind.u64
  (U8.v
  (List.getD b
  (k + 1 + 1 +
  2 +
  1 +
  0 +
  3)
  Enc.dflt)))))))))
  0))))
  (need
  (Nat.ble (List.length l + 1) 1000000)
  (need
  (true &&
  Nat.ble (0 + List.length l)
  (List.length l))
  (onP N AX.normal
  (shpTkG b l c cl n
  (k + 1 + 1 + 2 +
  1 +
  4)
  (m - 1 - 1 - 2 -
  1 -
  4)
  (bif
  Nat.beq
  (m - 1 - 1 - 2 -
  1)
  0 then
  bif
  Nat.beq
  (m - 1 - 1 - 2)
  0 then
  bif
  Nat.beq (m - 1 - 1)
  0 then
  bif Nat.beq (m - 1) 0 then
  bif Nat.beq m 0 then cb
  else 0
  else 0
  else 0
  else 0
  else 0)
  (IntKind.wrap IntKind.i64
  (IntKind.wrap IntKind.u64
  (Int.ofNat
  (BitVec.toNat
  (BitVec.ofInt 64 (0 : Int) |||
  BitVec.ofInt 64
  (IntKind.wrap IntKind.u64
  (U8.v
  (List.getD b
  (k + 0 + 0)
  Enc.dflt))))))))
  (IntKind.wrap IntKind.i64
  (IntKind.wrap IntKind.u64
  (Int.ofNat
  (BitVec.toNat
  (BitVec.ofInt 64 (0 : Int) |||
  BitVec.ofInt 64
  (IntKind.wrap IntKind.u64
  (U8.v
  (List.getD b
  (k + 1 + 0 +
  0)
  Enc.dflt))))))))
  (IntKind.wrap IntKind.i64
  (IntKind.wrap IntKind.u64
  (Int.ofNat
  (BitVec.toNat
  (BitVec.ofInt 64
  (IntKind.wrap IntKind.u64
  (IntKind.wrap IntKind.u64
  (Int.ofNat
  (BitVec.toNat
  (BitVec.ofInt 64
  (0 : Int) |||
  BitVec.ofInt 64
  (IntKind.wrap
  IntKind.u64
  (U8.v
  (List.getD b
  (k + 1 +
  (1 :
  Nat) +
  0 +
  0)
  Enc.dflt)))))) *
  (256 : Int))) |||
  BitVec.ofInt 64
  (IntKind.wrap IntKind.u64
  (U8.v
  (List.getD b
  (k + 1 + 1 +
  0 +
  1)
  Enc.dflt))))))))
  (IntKind.wrap IntKind.i64
  (IntKind.wrap IntKind.u64
  (Int.ofNat
  (BitVec.toNat
  (BitVec.ofInt 64 (0 : Int) |||
  BitVec.ofInt 64
  (IntKind.wrap IntKind.u64
  (U8.v
  (List.getD b
  (k + 1 + 1 +
  2 +
  0 +
  0)
  Enc.dflt))))))))
  (IntKind.wrap IntKind.i64
  (IntKind.wrap IntKind.u64
  (Int.ofNat
  (BitVec.toNat
  (BitVec.ofInt 64 (0 : Int) |||
  BitVec.ofInt 64
  (IntKind.wrap IntKind.u64
  (U8.v
  (List.getD b
  (k + 1 + 0 +
  0)
  Enc.dflt))))))))
  (IntKind.wrap IntKind.i64
  (IntKind.wrap IntKind.u64
  (Int.ofNat
  (BitVec.toNat
  (BitVec.ofInt 64
  (IntKind.wrap IntKind.u64
  (IntKind.wrap IntKind.u64
  (Int.ofNat
  (BitVec.toNat
  (BitVec.ofInt 64
  (IntKind.wrap
  IntKind.u64
  (IntKind.wrap
  IntKind.u64
  (Int.ofNat
  (BitVec.toNat
  (BitVec.ofInt
  (64 :
  Nat)
  (IntKind.wrap
  IntKind.u64
  (IntKind.wrap
  IntKind.u64
  (Int.ofNat
  (BitVec.toNat
  (BitVec.ofInt
  (64 :
  Nat)
  (0 :
  Int) |||
  BitVec.ofInt
  (64 :
  Nat)
  (IntKind.wrap
  IntKind.u64
  (U8.v
  (List.getD
  b
  (k +
  (1 :
  Nat) +
  (1 :
  Nat) +
  (2 :
  Nat) +
  (1 :
  Nat) +
  (0 :
  Nat) +
  (0 :
  Nat))
  Enc.dflt)))))) *
  (256 :
  Int))) |||
  BitVec.ofInt
  (64 :
  Nat)
  (IntKind.wrap
  IntKind.u64
  (U8.v
  (List.getD
  b
  (k +
  (1 :
  Nat) +
  (1 :
  Nat) +
  (2 :
  Nat) +
  (1 :
  Nat) +
  (0 :
  Nat) +
  (1 :
  Nat))
  Enc.dflt)))))) *
  (256 : Int))) |||
  BitVec.ofInt 64
  (IntKind.wrap
  IntKind.u64
  (U8.v
  (List.getD b
  (k + 1 +
  (1 :
  Nat) +
  (2 :
  Nat) +
  (1 :
  Nat) +
  0 +
  2)
  Enc.dflt)))))) *
  (256 : Int))) |||
  BitVec.ofInt 64
  (IntKind.wrap IntKind.u64
  (U8.v
  (List.getD b
  (k + 1 + 1 +
  2 +
  1 +
  0 +
  3)
  Enc.dflt))))))))
  0))))))))))))))
  (br
  (IntKind.wrap IntKind.i64
  (IntKind.wrap IntKind.u64
  (Int.ofNat
  (BitVec.toNat
  (BitVec.ofInt 64 (0 : Int) |||
  BitVec.ofInt 64
  (IntKind.wrap IntKind.u64
  (U8.v
  (List.getD b (k + 1 + 0 + 0)
  Enc.dflt))))))) ==
  (4 : Int))
  (br
  (decide
  ((8 : Int) >
  Int.ofNat (m - 1 - 1 - 2 - 1)))
  (br
  (IntKind.wrap IntKind.i64
  (IntKind.wrap IntKind.u64
  (Int.ofNat
  (BitVec.toNat
  (BitVec.ofInt 64 (0 : Int) |||
  BitVec.ofInt 64
  (IntKind.wrap IntKind.u64
  (U8.v
  (List.getD b (k + 1 + 0 + 0)
  Enc.dflt))))))) ==
  (5 : Int))
  (need (Nat.ble (List.length l + 1) 1000000)
  (need (true && Nat.ble (0 + List.length l) (List.length l))
  (onP N AX.normal
  (shpTkB b l c cl n
  (IntKind.wrap IntKind.i64
  (IntKind.wrap IntKind.u64
  (Int.ofNat
  (BitVec.toNat
  (BitVec.ofInt 64 (0 : Int) |||
  BitVec.ofInt 64
  (IntKind.wrap IntKind.u64
  (U8.v
  (List.getD b (k + 0 + 0)
  Enc.dflt))))))))
  (IntKind.wrap IntKind.i64
  (IntKind.wrap IntKind.u64
  (Int.ofNat
  (BitVec.toNat
  (BitVec.ofInt 64 (0 : Int) |||
  BitVec.ofInt 64
  (IntKind.wrap IntKind.u64
  (U8.v
  (List.getD b
  (k + 1 + 0 + 0)
  Enc.dflt))))))))
  (IntKind.wrap IntKind.i64
  (IntKind.wrap IntKind.u64
  (Int.ofNat
  (BitVec.toNat
  (BitVec.ofInt 64
  (IntKind.wrap IntKind.u64
  (IntKind.wrap IntKind.u64
  (Int.ofNat
  (BitVec.toNat
  (BitVec.ofInt 64 (0 : Int) |||
  BitVec.ofInt 64
  (IntKind.wrap IntKind.u64
  (U8.v
  (List.getD b
  (k + 1 + 1 +
  0 +
  0)
  Enc.dflt)))))) *
  (256 : Int))) |||
  BitVec.ofInt 64
  (IntKind.wrap IntKind.u64
  (U8.v
  (List.getD b
  (k + 1 + 1 + 0 +
  1)
  Enc.dflt))))))))
  (IntKind.wrap IntKind.i64
  (IntKind.wrap IntKind.u64
  (Int.ofNat
  (BitVec.toNat
  (BitVec.ofInt 64 (0 : Int) |||
  BitVec.ofInt 64
  (IntKind.wrap IntKind.u64
  (U8.v
  (List.getD b
  (k + 1 + 1 + 2 +
  0 +
  0)
  Enc.dflt))))))))
  (IntKind.wrap IntKind.i64
  (IntKind.wrap IntKind.u64
  (Int.ofNat
  (BitVec.toNat
  (BitVec.ofInt 64 (0 : Int) |||
  BitVec.ofInt 64
  (IntKind.wrap IntKind.u64
  (U8.v
  (List.getD b
  (k + 1 + 0 + 0)
  Enc.dflt))))))))
  (0 : Int) 0))))
  (br
  (IntKind.wrap IntKind.i64
  (IntKind.wrap IntKind.u64
  (Int.ofNat
  (BitVec.toNat
  (BitVec.ofInt 64 (0 : Int) |||
  BitVec.ofInt 64
  (IntKind.wrap IntKind.u64
  (U8.v
  (List.getD b
  (k + 1 + 0 + 0)
  Enc.dflt))))))) ==
  (2 : Int))
  (need (Nat.ble (List.length l + 1) 1000000)
  (need
  (true && Nat.ble (0 + List.length l) (List.length l))
  (onP N AX.normal
  (shpTkB b l c cl n
  (IntKind.wrap IntKind.i64
  (IntKind.wrap IntKind.u64
  (Int.ofNat
  (BitVec.toNat
  (BitVec.ofInt 64 (0 : Int) |||
  BitVec.ofInt 64
  (IntKind.wrap IntKind.u64
  (U8.v
  (List.getD b (k + 0 + 0)
  Enc.dflt))))))))
  (IntKind.wrap IntKind.i64
  (IntKind.wrap IntKind.u64
  (Int.ofNat
  (BitVec.toNat
  (BitVec.ofInt 64 (0 : Int) |||
  BitVec.ofInt 64
  (IntKind.wrap IntKind.u64
  (U8.v
  (List.getD b
  (k + 1 + 0 + 0)
  Enc.dflt))))))))
  (IntKind.wrap IntKind.i64
  (IntKind.wrap IntKind.u64
  (Int.ofNat
  (BitVec.toNat
  (BitVec.ofInt 64
  (IntKind.wrap IntKind.u64
  (IntKind.wrap IntKind.u64
  (Int.ofNat
  (BitVec.toNat
  (BitVec.ofInt 64 (0 : Int) |||
  BitVec.ofInt 64
  (IntKind.wrap IntKind.u64
  (U8.v
  (List.getD b
  (k + 1 + 1 +
  0 +
  0)
  Enc.dflt)))))) *
  (256 : Int))) |||
  BitVec.ofInt 64
  (IntKind.wrap IntKind.u64
  (U8.v
  (List.getD b
  (k + 1 + 1 + 0 +
  1)
  Enc.dflt))))))))
  (IntKind.wrap IntKind.i64
  (IntKind.wrap IntKind.u64
  (Int.ofNat
  (BitVec.toNat
  (BitVec.ofInt 64 (0 : Int) |||
  BitVec.ofInt 64
  (IntKind.wrap IntKind.u64
  (U8.v
  (List.getD b
  (k + 1 + 1 + 2 +
  0 +
  0)
  Enc.dflt))))))))
  (IntKind.wrap IntKind.i64
  (IntKind.wrap IntKind.u64
  (Int.ofNat
  (BitVec.toNat
  (BitVec.ofInt 64 (0 : Int) |||
  BitVec.ofInt 64
  (IntKind.wrap IntKind.u64
  (U8.v
  (List.getD b
  (k + 1 + 0 + 0)
  Enc.dflt))))))))
  (0 : Int) 0))))
  (br
  (IntKind.wrap IntKind.i64
  (IntKind.wrap IntKind.u64
  (Int.ofNat
  (BitVec.toNat
  (BitVec.ofInt 64 (0 : Int) |||
  BitVec.ofInt 64
  (IntKind.wrap IntKind.u64
  (U8.v
  (List.getD b
  (k + 1 + 0 + 0)
  Enc.dflt))))))) ==
  (3 : Int))
  (need (Nat.ble (List.length l + 1) 1000000)
  (need
  (true && Nat.ble (0 + List.length l) (List.length l))
  (onP N AX.normal
  (shpTkB b l c cl n
  (IntKind.wrap IntKind.i64
  (IntKind.wrap IntKind.u64
  (Int.ofNat
  (BitVec.toNat
  (BitVec.ofInt 64 (0 : Int) |||
  BitVec.ofInt 64
  (IntKind.wrap IntKind.u64
  (U8.v
  (List.getD b (k + 0 + 0)
  Enc.dflt))))))))
  (IntKind.wrap IntKind.i64
  (IntKind.wrap IntKind.u64
  (Int.ofNat
  (BitVec.toNat
  (BitVec.ofInt 64 (0 : Int) |||
  BitVec.ofInt 64
  (IntKind.wrap IntKind.u64
  (U8.v
  (List.getD b
  (k + 1 + 0 + 0)
  Enc.dflt))))))))
  (IntKind.wrap IntKind.i64
  (IntKind.wrap IntKind.u64
  (Int.ofNat
  (BitVec.toNat
  (BitVec.ofInt 64
  (IntKind.wrap IntKind.u64
  (IntKind.wrap IntKind.u64
  (Int.ofNat
  (BitVec.toNat
  (BitVec.ofInt 64
  (0 : Int) |||
  BitVec.ofInt 64
  (IntKind.wrap IntKind.u64
  (U8.v
  (List.getD b
  (k + 1 +
  1 +
  0 +
  0)
  Enc.dflt)))))) *
  (256 : Int))) |||
  BitVec.ofInt 64
  (IntKind.wrap IntKind.u64
  (U8.v
  (List.getD b
  (k + 1 + 1 + 0 +
  1)
  Enc.dflt))))))))
  (IntKind.wrap IntKind.i64
  (IntKind.wrap IntKind.u64
  (Int.ofNat
  (BitVec.toNat
  (BitVec.ofInt 64 (0 : Int) |||
  BitVec.ofInt 64
  (IntKind.wrap IntKind.u64
  (U8.v
  (List.getD b
  (k + 1 + 1 + 2 +
  0 +
  0)
  Enc.dflt))))))))
  (IntKind.wrap IntKind.i64
  (IntKind.wrap IntKind.u64
  (Int.ofNat
  (BitVec.toNat
  (BitVec.ofInt 64 (0 : Int) |||
  BitVec.ofInt 64
  (IntKind.wrap IntKind.u64
  (U8.v
  (List.getD b
  (k + 1 + 0 + 0)
  Enc.dflt))))))))
  (0 : Int) 0))))
  (need (Nat.ble (List.length l + 1) 1000000)
  (need
  (true && Nat.ble (0 + List.length l) (List.length l))
  (onP N AX.normal
  (shpTkB b l c cl n
  (IntKind.wrap IntKind.i64
  (IntKind.wrap IntKind.u64
  (Int.ofNat
  (BitVec.toNat
  (BitVec.ofInt 64 (0 : Int) |||
  BitVec.ofInt 64
  (IntKind.wrap IntKind.u64
  (U8.v
  (List.getD b (k + 0 + 0)
  Enc.dflt))))))))
  (IntKind.wrap IntKind.i64
  (IntKind.wrap IntKind.u64
  (Int.ofNat
  (BitVec.toNat
  (BitVec.ofInt 64 (0 : Int) |||
  BitVec.ofInt 64
  (IntKind.wrap IntKind.u64
  (U8.v
  (List.getD b
  (k + 1 + 0 + 0)
  Enc.dflt))))))))
  (IntKind.wrap IntKind.i64
  (IntKind.wrap IntKind.u64
  (Int.ofNat
  (BitVec.toNat
  (BitVec.ofInt 64
  (IntKind.wrap IntKind.u64
  (IntKind.wrap IntKind.u64
  (Int.ofNat
  (BitVec.toNat
  (BitVec.ofInt 64
  (0 : Int) |||
  BitVec.ofInt 64
  (IntKind.wrap IntKind.u64
  (U8.v
  (List.getD b
  (k + 1 +
  1 +
  0 +
  0)
  Enc.dflt)))))) *
  (256 : Int))) |||
  BitVec.ofInt 64
  (IntKind.wrap IntKind.u64
  (U8.v
  (List.getD b
  (k + 1 + 1 + 0 +
  1)
  Enc.dflt))))))))
  (IntKind.wrap IntKind.i64
  (IntKind.wrap IntKind.u64
  (Int.ofNat
  (BitVec.toNat
  (BitVec.ofInt 64 (0 : Int) |||
  BitVec.ofInt 64
  (IntKind.wrap IntKind.u64
  (U8.v
  (List.getD b
  (k + 1 + 1 + 2 +
  0 +
  0)
  Enc.dflt))))))))
  (IntKind.wrap IntKind.i64
  (IntKind.wrap IntKind.u64
  (Int.ofNat
  (BitVec.toNat
  (BitVec.ofInt 64 (0 : Int) |||
  BitVec.ofInt 64
  (IntKind.wrap IntKind.u64
  (U8.v
  (List.getD b
  (k + 1 + 0 + 0)
  Enc.dflt))))))))
  (0 : Int) 0)))))))
  (need
  (Nat.ble 8
  (m - 1 - 1 - 2 - 1))
  (need
  (Nat.ble 0
  (k + 1 + 1 + 2 + 1 + 0 +
  0) &&
  Nat.blt
  (k + 1 + 1 + 2 + 1 + 0 +
  0)
  (List.length b))
  (need
  (Nat.ble 0
  (k + 1 + 1 + 2 + 1 +
  0 +
  1) &&
  Nat.blt
  (k + 1 + 1 + 2 + 1 +
  0 +
  1)
  (List.length b))
  (need
  (Nat.ble 0
  (k + 1 + 1 + 2 + 1 +
  0 +
  2) &&
  Nat.blt
  (k + 1 + 1 + 2 + 1 +
  0 +
  2)
  (List.length b))
  (need
  (Nat.ble 0
  (k + 1 + 1 + 2 + 1 +
  0 +
  3) &&
  Nat.blt
  (k + 1 + 1 + 2 + 1 +
  0 +
  3)
  (List.length b))
  (need
  (Nat.ble 0
  (k + 1 + 1 + 2 + 1 +
  0 +
  4) &&
  Nat.blt
  (k + 1 + 1 + 2 + 1 +
  0 +
  4)
  (List.length b))
  (need
  (Nat.ble 0
  (k + 1 + 1 + 2 + 1 +
  0 +
  5) &&
  Nat.blt
  (k + 1 + 1 + 2 + 1 +
  0 +
  5)
  (List.length b))
  (need
  (Nat.ble 0
  (k + 1 + 1 + 2 + 1 +
  0 +
  6) &&
  Nat.blt
  (k + 1 + 1 + 2 + 1 +
  0 +
  6)
  (List.length b))
  (need
  (Nat.ble 0
  (k + 1 + 1 + 2 +
  1 +
  0 +
  7) &&
  Nat.blt
  (k + 1 + 1 + 2 +
  1 +
  0 +
  7)
  (List.length b))
  (need
  (Nat.ble 8
  (m - 1 - 1 - 2 -
  1))
  (br
  (IntKind.wrap IntKind.i64
  (IntKind.wrap IntKind.u64
  (Int.ofNat
  (BitVec.toNat
  (BitVec.ofInt 64 (0 : Int) |||
  BitVec.ofInt 64
  (IntKind.wrap IntKind.u64
  (U8.v
  (List.getD b
  (k + 1 + 0 +
  0)
  Enc.dflt))))))) ==
  (5 : Int))
  (need
  (Nat.ble (List.length l + 1)
  1000000)
  (need
  (true &&
  Nat.ble (0 + List.length l)
  (List.length l))
  (onP N AX.normal
  (shpTkG b l c cl n
  (k + 1 + 1 + 2 +
  1 +
  8)
  (m - 1 - 1 - 2 -
  1 -
  8)
  (bif
  Nat.beq
  (m - 1 - 1 -
  2 -
  1)
  0 then
  bif
  Nat.beq
  (m - 1 - 1 -
  2)
  0 then
  bif
  Nat.beq
  (m - 1 - 1)
  0 then
  bif
  Nat.beq (m - 1)
  0 then
  bif Nat.beq m 0 then cb
  else 0
  else 0
  else 0
  else 0
  else 0)
  (IntKind.wrap IntKind.i64
  (IntKind.wrap IntKind.u64
  (Int.ofNat
  (BitVec.toNat
  (BitVec.ofInt 64
  (0 : Int) |||
  BitVec.ofInt 64
  (IntKind.wrap IntKind.u64
  (U8.v
  (List.getD b
  (k + 0 +
  0)
  Enc.dflt))))))))
  (IntKind.wrap IntKind.i64
  (IntKind.wrap IntKind.u64
  (Int.ofNat
  (BitVec.toNat
  (BitVec.ofInt 64
  (0 : Int) |||
  BitVec.ofInt 64
  (IntKind.wrap IntKind.u64
  (U8.v
  (List.getD b
  (k + 1 +
  0 +
  0)
  Enc.dflt))))))))
  (IntKind.wrap IntKind.i64
  (IntKind.wrap IntKind.u64
  (Int.ofNat
  (BitVec.toNat
  (BitVec.ofInt 64
  (IntKind.wrap IntKind.u64
  (IntKind.wrap IntKind.u64
  (Int.ofNat
  (BitVec.toNat
  (BitVec.ofInt
  64
  (0 : Int) |||
  BitVec.ofInt
  64
  (IntKind.wrap
  IntKind.u64
  (U8.v
  (List.getD b
  (k +
  (1 :
  Nat) +
  (1 :
  Nat) +
  (0 :
  Nat) +
  (0 :
  Nat))
  Enc.dflt)))))) *
  (256 : Int))) |||
  BitVec.ofInt 64
  (IntKind.wrap IntKind.u64
  (U8.v
  (List.getD b
  (k + 1 +
  1 +
  0 +
  1)
  Enc.dflt))))))))
  (IntKind.wrap IntKind.i64
  (IntKind.wrap IntKind.u64
  (Int.ofNat
  (BitVec.toNat
  (BitVec.ofInt 64
  (0 : Int) |||
  BitVec.ofInt 64
  (IntKind.wrap IntKind.u64
  (U8.v
  (List.getD b
  (k + 1 +
  1 +
  2 +
  0 +
  0)
  Enc.dflt))))))))
  (IntKind.wrap IntKind.i64
  (IntKind.wrap IntKind.u64
  (Int.ofNat
  (BitVec.toNat
  (BitVec.ofInt 64
  (0 : Int) |||
  BitVec.ofInt 64
  (IntKind.wrap IntKind.u64
  (U8.v
  (List.getD b
  (k + 1 +
  0 +
  0)
  Enc.dflt))))))))
  (0 : Int)
  (Int.toNat
  (IntKind.wrap IntKind.u64
  (Int.ofNat
  (BitVec.toNat
  (BitVec.ofInt 64
  (IntKind.wrap IntKind.u64
  (IntKind.wrap IntKind.u64
  (Int.ofNat
  (BitVec.toNat
  (BitVec.ofInt
  64
  (IntKind.wrap
  IntKind.u64
  (IntKind.wrap
  IntKind.u64
  (Int.ofNat
  (BitVec.toNat
  (BitVec.ofInt
  (64 :
  Nat)
  (IntKind.wrap
  IntKind.u64
  (IntKind.wrap
  IntKind.u64
  (Int.ofNat
  (BitVec.toNat
  (BitVec.ofInt
  (64 :
  Nat)
  (IntKind.wrap
  IntKind.u64
  (IntKind.wrap
  IntKind.u64
  (Int.ofNat
  (BitVec.toNat
  (BitVec.ofInt
  (64 :
  Nat)
  (IntKind.wrap
  IntKind.u64
  (IntKind.wrap
  IntKind.u64
  (Int.ofNat
  (BitVec.toNat
  (BitVec.ofInt
  (64 :
  Nat)
  (IntKind.wrap
  IntKind.u64
  (IntKind.wrap
  IntKind.u64
  (Int.ofNat
  (BitVec.toNat
  (BitVec.ofInt
  (64 :
  Nat)
  (IntKind.wrap
  IntKind.u64
  (IntKind.wrap
  IntKind.u64
  (Int.ofNat
  (BitVec.toNat
  (BitVec.ofInt
  (64 :
  Nat)
  (0 :
  Int) |||
  BitVec.ofInt
  (64 :
  Nat)
  (IntKind.wrap
  IntKind.u64
  (U8.v
  (List.getD
  b
  (k +
  (1 :
  Nat) +
  (1 :
  Nat) +
  (2 :
  Nat) +
  (1 :
  Nat) +
  (0 :
  Nat) +
  (0 :
  Nat))
  Enc.dflt)))))) *
  (256 :
  Int))) |||
  BitVec.ofInt
  (64 :
  Nat)
  (IntKind.wrap
  IntKind.u64
  (U8.v
  (List.getD
  b
  (k +
  (1 :
  Nat) +
  (1 :
  Nat) +
  (2 :
  Nat) +
  (1 :
  Nat) +
  (0 :
  Nat) +
  (1 :
  Nat))
  Enc.dflt)))))) *
  (256 :
  Int))) |||
  BitVec.ofInt
  (64 :
  Nat)
  (IntKind.wrap
  IntKind.u64
  (U8.v
  (List.getD
  b
  (k +
  (1 :
  Nat) +
  (1 :
  Nat) +
  (2 :
  Nat) +
  (1 :
  Nat) +
  (0 :
  Nat) +
  (2 :
  Nat))
  Enc.dflt)))))) *
  (256 :
  Int))) |||
  BitVec.ofInt
  (64 :
  Nat)
  (IntKind.wrap
  IntKind.u64
  (U8.v
  (List.getD
  b
  (k +
  (1 :
  Nat) +
  (1 :
  Nat) +
  (2 :
  Nat) +
  (1 :
  Nat) +
  (0 :
  Nat) +
  (3 :
  Nat))
  Enc.dflt)))))) *
  (256 :
  Int))) |||
  BitVec.ofInt
  (64 :
  Nat)
  (IntKind.wrap
  IntKind.u64
  (U8.v
  (List.getD
  b
  (k +
  (1 :
  Nat) +
  (1 :
  Nat) +
  (2 :
  Nat) +
  (1 :
  Nat) +
  (0 :
  Nat) +
  (4 :
  Nat))
  Enc.dflt)))))) *
  (256 :
  Int))) |||
  BitVec.ofInt
  (64 :
  Nat)
  (IntKind.wrap
  IntKind.u64
  (U8.v
  (List.getD
  b
  (k +
  (1 :
  Nat) +
  (1 :
  Nat) +
  (2 :
  Nat) +
  (1 :
  Nat) +
  (0 :
  Nat) +
  (5 :
  Nat))
  Enc.dflt)))))) *
  (256 :
  Int))) |||
  BitVec.ofInt
  64
  (IntKind.wrap
  IntKind.u64
  (U8.v
  (List.getD b
  (k +
  (1 :
  Nat) +
  (1 :
  Nat) +
  (2 :
  Nat) +
  (1 :
  Nat) +
  (0 :
  Nat) +
  (6 :
  Nat))
  Enc.dflt)))))) *
  (256 : Int))) |||
  BitVec.ofInt 64
  (IntKind.wrap IntKind.u64
  (U8.v
  (List.getD b
  (k + 1 +
  1 +
  2 +
  1 +
  0 +
  7)
  Enc.dflt))))))))))))
  (br
  (IntKind.wrap IntKind.i64
  (IntKind.wrap IntKind.u64
  (Int.ofNat
  (BitVec.toNat
  (BitVec.ofInt 64 (0 : Int) |||
  BitVec.ofInt 64
  (IntKind.wrap IntKind.u64
  (U8.v
  (List.getD b
  (k + 1 + 0 +
  0)
  Enc.dflt))))))) ==
  (2 : Int))
  (need
  (Nat.ble (List.length l + 1)
  1000000)
  (need
  (true &&
  Nat.ble (0 + List.length l)
  (List.length l))
  (onP N AX.normal
  (shpTkG b l c cl n
  (k + 1 + 1 + 2 +
  1 +
  8)
  (m - 1 - 1 - 2 -
  1 -
  8)
  (bif
  Nat.beq
  (m - 1 - 1 -
  2 -
  1)
  0 then
  bif
  Nat.beq
  (m - 1 - 1 -
  2)
  0 then
  bif
  Nat.beq
  (m - 1 - 1)
  0 then
  bif
  Nat.beq (m - 1)
  0 then
  bif Nat.beq m 0 then cb
  else 0
  else 0
  else 0
  else 0
  else 0)
  (IntKind.wrap IntKind.i64
  (IntKind.wrap IntKind.u64
  (Int.ofNat
  (BitVec.toNat
  (BitVec.ofInt 64
  (0 : Int) |||
  BitVec.ofInt 64
  (IntKind.wrap IntKind.u64
  (U8.v
  (List.getD b
  (k + 0 +
  0)
  Enc.dflt))))))))
  (IntKind.wrap IntKind.i64
  (IntKind.wrap IntKind.u64
  (Int.ofNat
  (BitVec.toNat
  (BitVec.ofInt 64
  (0 : Int) |||
  BitVec.ofInt 64
  (IntKind.wrap IntKind.u64
  (U8.v
  (List.getD b
  (k + 1 +
  0 +
  0)
  Enc.dflt))))))))
  (IntKind.wrap IntKind.i64
  (IntKind.wrap IntKind.u64
  (Int.ofNat
  (BitVec.toNat
  (BitVec.ofInt 64
  (IntKind.wrap IntKind.u64
  (IntKind.wrap IntKind.u64
  (Int.ofNat
  (BitVec.toNat
  (BitVec.ofInt
  64
  (0 : Int) |||
  BitVec.ofInt
  64
  (IntKind.wrap
  IntKind.u64
  (U8.v
  (List.getD
  b
  (k +
  (1 :
  Nat) +
  (1 :
  Nat) +
  (0 :
  Nat) +
  (0 :
  Nat))
  Enc.dflt)))))) *
  (256 : Int))) |||
  BitVec.ofInt 64
  (IntKind.wrap IntKind.u64
  (U8.v
  (List.getD b
  (k + 1 +
  1 +
  0 +
  1)
  Enc.dflt))))))))
  (IntKind.wrap IntKind.i64
  (IntKind.wrap IntKind.u64
  (Int.ofNat
  (BitVec.toNat
  (BitVec.ofInt 64
  (0 : Int) |||
  BitVec.ofInt 64
  (IntKind.wrap IntKind.u64
  (U8.v
  (List.getD b
  (k + 1 +
  1 +
  2 +
  0 +
  0)
  Enc.dflt))))))))
  (IntKind.wrap IntKind.i64
  (IntKind.wrap IntKind.u64
  (Int.ofNat
  (BitVec.toNat
  (BitVec.ofInt 64
  (0 : Int) |||
  BitVec.ofInt 64
  (IntKind.wrap IntKind.u64
  (U8.v
  (List.getD b
  (k + 1 +
  0 +
  0)
  Enc.dflt))))))))
  (IntKind.wrap IntKind.i64
  (IntKind.wrap IntKind.i16
  (IntKind.wrap IntKind.u64
  (Int.ofNat
  (BitVec.toNat
  (BitVec.ofInt 64
  (IntKind.wrap IntKind.u64
  (IntKind.wrap
  IntKind.u64
  (Int.ofNat
  (BitVec.toNat
  (BitVec.ofInt
  64
  (IntKind.wrap
  IntKind.u64
  (IntKind.wrap
  IntKind.u64
  (Int.ofNat
  (BitVec.toNat
  (BitVec.ofInt
  (64 :
  Nat)
  (IntKind.wrap
  IntKind.u64
  (IntKind.wrap
  IntKind.u64
  (Int.ofNat
  (BitVec.toNat
  (BitVec.ofInt
  (64 :
  Nat)
  (IntKind.wrap
  IntKind.u64
  (IntKind.wrap
  IntKind.u64
  (Int.ofNat
  (BitVec.toNat
  (BitVec.ofInt
  (64 :
  Nat)
  (IntKind.wrap
  IntKind.u64
  (IntKind.wrap
  IntKind.u64
  (Int.ofNat
  (BitVec.toNat
  (BitVec.ofInt
  (64 :
  Nat)
  (IntKind.wrap
  IntKind.u64
  (IntKind.wrap
  IntKind.u64
  (Int.ofNat
  (BitVec.toNat
  (BitVec.ofInt
  (64 :
  Nat)
  (IntKind.wrap
  IntKind.u64
  (IntKind.wrap
  IntKind.u64
  (Int.ofNat
  (BitVec.toNat
  (BitVec.ofInt
  (64 :
  Nat)
  (0 :
  Int) |||
  BitVec.ofInt
  (64 :
  Nat)
  (IntKind.wrap
  IntKind.u64
  (U8.v
  (List.getD
  b
  (k +
  (1 :
  Nat) +
  (1 :
  Nat) +
  (2 :
  Nat) +
  (1 :
  Nat) +
  (0 :
  Nat) +
  (0 :
  Nat))
  Enc.dflt)))))) *
  (256 :
  Int))) |||
  BitVec.ofInt
  (64 :
  Nat)
  (IntKind.wrap
  IntKind.u64
  (U8.v
  (List.getD
  b
  (k +
  (1 :
  Nat) +
  (1 :
  Nat) +
  (2 :
  Nat) +
  (1 :
  Nat) +
  (0 :
  Nat) +
  (1 :
  Nat))
  Enc.dflt)))))) *
  (256 :
  Int))) |||
  BitVec.ofInt
  (64 :
  Nat)
  (IntKind.wrap
  IntKind.u64
  (U8.v
  (List.getD
  b
  (k +
  (1 :
  Nat) +
  (1 :
  Nat) +
  (2 :
  Nat) +
  (1 :
  Nat) +
  (0 :
  Nat) +
  (2 :
  Nat))
  Enc.dflt)))))) *
  (256 :
  Int))) |||
  BitVec.ofInt
  (64 :
  Nat)
  (IntKind.wrap
  IntKind.u64
  (U8.v
  (List.getD
  b
  (k +
  (1 :
  Nat) +
  (1 :
  Nat) +
  (2 :
  Nat) +
  (1 :
  Nat) +
  (0 :
  Nat) +
  (3 :
  Nat))
  Enc.dflt)))))) *
  (256 :
  Int))) |||
  BitVec.ofInt
  (64 :
  Nat)
  (IntKind.wrap
  IntKind.u64
  (U8.v
  (List.getD
  b
  (k +
  (1 :
  Nat) +
  (1 :
  Nat) +
  (2 :
  Nat) +
  (1 :
  Nat) +
  (0 :
  Nat) +
  (4 :
  Nat))
  Enc.dflt)))))) *
  (256 :
  Int))) |||
  BitVec.ofInt
  (64 :
  Nat)
  (IntKind.wrap
  IntKind.u64
  (U8.v
  (List.getD
  b
  (k +
  (1 :
  Nat) +
  (1 :
  Nat) +
  (2 :
  Nat) +
  (1 :
  Nat) +
  (0 :
  Nat) +
  (5 :
  Nat))
  Enc.dflt)))))) *
  (256 :
  Int))) |||
  BitVec.ofInt
  64
  (IntKind.wrap
  IntKind.u64
  (U8.v
  (List.getD
  b
  (k +
  (1 :
  Nat) +
  (1 :
  Nat) +
  (2 :
  Nat) +
  (1 :
  Nat) +
  (0 :
  Nat) +
  (6 :
  Nat))
  Enc.dflt)))))) *
  (256 : Int))) |||
  BitVec.ofInt 64
  (IntKind.wrap IntKind.u64
  (U8.v
  (List.getD b
  (k + 1 +
  (1 :
  Nat) +
  2 +
  1 +
  0 +
  7)
  Enc.dflt)))))))))
  0))))
  (br
  (IntKind.wrap IntKind.i64
  (IntKind.wrap IntKind.u64
  (Int.ofNat
  (BitVec.toNat
  (BitVec.ofInt 64
  (0 : Int) |||
  BitVec.ofInt 64
  (IntKind.wrap IntKind.u64
  (U8.v
  (List.getD b
  (k + 1 +
  0 +
  0)
  Enc.dflt))))))) ==
  (3 : Int))
  (need
  (Nat.ble (List.length l + 1)
  1000000)
  (need
  (true &&
  Nat.ble (0 + List.length l)
  (List.length l))
  (onP N AX.normal
  (shpTkG b l c cl n
  (k + 1 + 1 +
  2 +
  1 +
  8)
  (m - 1 - 1 -
  2 -
  1 -
  8)
  (bif
  Nat.beq
  (m - 1 - 1 -
  2 -
  1)
  0 then
  bif
  Nat.beq
  (m - 1 - 1 -
  2)
  0 then
  bif
  Nat.beq
  (m - 1 - 1)
  0 then
  bif
  Nat.beq (m - 1)
  0 then
  bif Nat.beq m 0 then
  cb
  else 0
  else 0
  else 0
  else 0
  else 0)
  (IntKind.wrap IntKind.i64
  (IntKind.wrap IntKind.u64
  (Int.ofNat
  (BitVec.toNat
  (BitVec.ofInt 64
  (0 : Int) |||
  BitVec.ofInt 64
  (IntKind.wrap IntKind.u64
  (U8.v
  (List.getD b
  (k + 0 +
  0)
  Enc.dflt))))))))
  (IntKind.wrap IntKind.i64
  (IntKind.wrap IntKind.u64
  (Int.ofNat
  (BitVec.toNat
  (BitVec.ofInt 64
  (0 : Int) |||
  BitVec.ofInt 64
  (IntKind.wrap IntKind.u64
  (U8.v
  (List.getD b
  (k + 1 +
  0 +
  0)
  Enc.dflt))))))))
  (IntKind.wrap IntKind.i64
  (IntKind.wrap IntKind.u64
  (Int.ofNat
  (BitVec.toNat
  (BitVec.ofInt 64
  (IntKind.wrap IntKind.u64
  (IntKind.wrap
  IntKind.u64
  (Int.ofNat
  (BitVec.toNat
  (BitVec.ofInt
  64
  (0 :
  Int) |||
  BitVec.ofInt
  64
  (IntKind.wrap
  IntKind.u64
  (U8.v
  (List.getD
  b
  (k +
  (1 :
  Nat) +
  (1 :
  Nat) +
  (0 :
  Nat) +
  (0 :
  Nat))
  Enc.dflt)))))) *
  (256 : Int))) |||
  BitVec.ofInt 64
  (IntKind.wrap IntKind.u64
  (U8.v
  (List.getD b
  (k + 1 +
  1 +
  0 +
  1)
  Enc.dflt))))))))
  (IntKind.wrap IntKind.i64
  (IntKind.wrap IntKind.u64
  (Int.ofNat
  (BitVec.toNat
  (BitVec.ofInt 64
  (0 : Int) |||
  BitVec.ofInt 64
  (IntKind.wrap IntKind.u64
  (U8.v
  (List.getD b
  (k + 1 +
  1 +
  2 +
  0 +
  0)
  Enc.dflt))))))))
  (IntKind.wrap IntKind.i64
  (IntKind.wrap IntKind.u64
  (Int.ofNat
  (BitVec.toNat
  (BitVec.ofInt 64
  (0 : Int) |||
  BitVec.ofInt 64
  (IntKind.wrap IntKind.u64
  (U8.v
  (List.getD b
  (k + 1 +
  0 +
  0)
  Enc.dflt))))))))
  (IntKind.wrap IntKind.i64
  (IntKind.wrap IntKind.i32
  (IntKind.wrap IntKind.u64
  (Int.ofNat
  (BitVec.toNat
  (BitVec.ofInt 64
  (IntKind.wrap
  IntKind.u64
  (IntKind.wrap
  IntKind.u64
  (Int.ofNat
  (BitVec.toNat
  (BitVec.ofInt
  64
  (IntKind.wrap
  IntKind.u64
  (IntKind.wrap
  IntKind.u64
  (Int.ofNat
  (BitVec.toNat
  (BitVec.ofInt
  (64 :
  Nat)
  (IntKind.wrap
  IntKind.u64
  (IntKind.wrap
  IntKind.u64
  (Int.ofNat
  (BitVec.toNat
  (BitVec.ofInt
  (64 :
  Nat)
  (IntKind.wrap
  IntKind.u64
  (IntKind.wrap
  IntKind.u64
  (Int.ofNat
  (BitVec.toNat
  (BitVec.ofInt
  (64 :
  Nat)
  (IntKind.wrap
  IntKind.u64
  (IntKind.wrap
  IntKind.u64
  (Int.ofNat
  (BitVec.toNat
  (BitVec.ofInt
  (64 :
  Nat)
  (IntKind.wrap
  IntKind.u64
  (IntKind.wrap
  IntKind.u64
  (Int.ofNat
  (BitVec.toNat
  (BitVec.ofInt
  (64 :
  Nat)
  (IntKind.wrap
  IntKind.u64
  (IntKind.wrap
  IntKind.u64
  (Int.ofNat
  (BitVec.toNat
  (BitVec.ofInt
  (64 :
  Nat)
  (0 :
  Int) |||
  BitVec.ofInt
  (64 :
  Nat)
  (IntKind.wrap
  IntKind.u64
  (U8.v
  (List.getD
  b
  (k +
  (1 :
  Nat) +
  (1 :
  Nat) +
  (2 :
  Nat) +
  (1 :
  Nat) +
  (0 :
  Nat) +
  (0 :
  Nat))
  Enc.dflt)))))) *
  (256 :
  Int))) |||
  BitVec.ofInt
  (64 :
  Nat)
  (IntKind.wrap
  IntKind.u64
  (U8.v
  (List.getD
  b
  (k +
  (1 :
  Nat) +
  (1 :
  Nat) +
  (2 :
  Nat) +
  (1 :
  Nat) +
  (0 :
  Nat) +
  (1 :
  Nat))
  Enc.dflt)))))) *
  (256 :
  Int))) |||
  BitVec.ofInt
  (64 :
  Nat)
  (IntKind.wrap
  IntKind.u64
  (U8.v
  (List.getD
  b
  (k +
  (1 :
  Nat) +
  (1 :
  Nat) +
  (2 :
  Nat) +
  (1 :
  Nat) +
  (0 :
  Nat) +
  (2 :
  Nat))
  Enc.dflt)))))) *
  (256 :
  Int))) |||
  BitVec.ofInt
  (64 :
  Nat)
  (IntKind.wrap
  IntKind.u64
  (U8.v
  (List.getD
  b
  (k +
  (1 :
  Nat) +
  (1 :
  Nat) +
  (2 :
  Nat) +
  (1 :
  Nat) +
  (0 :
  Nat) +
  (3 :
  Nat))
  Enc.dflt)))))) *
  (256 :
  Int))) |||
  BitVec.ofInt
  (64 :
  Nat)
  (IntKind.wrap
  IntKind.u64
  (U8.v
  (List.getD
  b
  (k +
  (1 :
  Nat) +
  (1 :
  Nat) +
  (2 :
  Nat) +
  (1 :
  Nat) +
  (0 :
  Nat) +
  (4 :
  Nat))
  Enc.dflt)))))) *
  (256 :
  Int))) |||
  BitVec.ofInt
  (64 :
  Nat)
  (IntKind.wrap
  IntKind.u64
  (U8.v
  (List.getD
  b
  (k +
  (1 :
  Nat) +
  (1 :
  Nat) +
  (2 :
  Nat) +
  (1 :
  Nat) +
  (0 :
  Nat) +
  (5 :
  Nat))
  Enc.dflt)))))) *
  (256 :
  Int))) |||
  BitVec.ofInt
  64
  (IntKind.wrap
  IntKind.u64
  (U8.v
  (List.getD
  b
  (k +
  (1 :
  Nat) +
  (1 :
  Nat) +
  (2 :
  Nat) +
  (1 :
  Nat) +
  (0 :
  Nat) +
  (6 :
  Nat))
  Enc.dflt)))))) *
  (256 : Int))) |||
  BitVec.ofInt 64
  (IntKind.wrap
  IntKind.u64
  (U8.v
  (List.getD b
  (k + 1 +
  (1 :
  Nat) +
  (2 :
  Nat) +
  1 +
  0 +
  7)
  Enc.dflt)))))))))
  0))))
  (need
  (Nat.ble (List.length l + 1)
  1000000)
  (need
  (true &&
  Nat.ble (0 + List.length l)
  (List.length l))
  (onP N AX.normal
  (shpTkG b l c cl n
  (k + 1 + 1 +
  2 +
  1 +
  8)
  (m - 1 - 1 -
  2 -
  1 -
  8)
  (bif
  Nat.beq
  (m - 1 - 1 -
  2 -
  1)
  0 then
  bif
  Nat.beq
  (m - 1 - 1 -
  2)
  0 then
  bif
  Nat.beq
  (m - 1 - 1)
  0 then
  bif
  Nat.beq (m - 1)
  0 then
  bif Nat.beq m 0 then
  cb
  else 0
  else 0
  else 0
  else 0
  else 0)
  (IntKind.wrap IntKind.i64
  (IntKind.wrap IntKind.u64
  (Int.ofNat
  (BitVec.toNat
  (BitVec.ofInt 64
  (0 : Int) |||
  BitVec.ofInt 64
  (IntKind.wrap IntKind.u64
  (U8.v
  (List.getD b
  (k + 0 +
  0)
  Enc.dflt))))))))
  (IntKind.wrap IntKind.i64
  (IntKind.wrap IntKind.u64
  (Int.ofNat
  (BitVec.toNat
  (BitVec.ofInt 64
  (0 : Int) |||
  BitVec.ofInt 64
  (IntKind.wrap IntKind.u64
  (U8.v
  (List.getD b
  (k + 1 +
  0 +
  0)
  Enc.dflt))))))))
  (IntKind.wrap IntKind.i64
  (IntKind.wrap IntKind.u64
  (Int.ofNat
  (BitVec.toNat
  (BitVec.ofInt 64
  (IntKind.wrap IntKind.u64
  (IntKind.wrap
  IntKind.u64
  (Int.ofNat
  (BitVec.toNat
  (BitVec.ofInt
  64
  (0 :
  Int) |||
  BitVec.ofInt
  64
  (IntKind.wrap
  IntKind.u64
  (U8.v
  (List.getD
  b
  (k +
  (1 :
  Nat) +
  (1 :
  Nat) +
  (0 :
  Nat) +
  (0 :
  Nat))
  Enc.dflt)))))) *
  (256 : Int))) |||
  BitVec.ofInt 64
  (IntKind.wrap IntKind.u64
  (U8.v
  (List.getD b
  (k + 1 +
  1 +
  0 +
  1)
  Enc.dflt))))))))
  (IntKind.wrap IntKind.i64
  (IntKind.wrap IntKind.u64
  (Int.ofNat
  (BitVec.toNat
  (BitVec.ofInt 64
  (0 : Int) |||
  BitVec.ofInt 64
  (IntKind.wrap IntKind.u64
  (U8.v
  (List.getD b
  (k + 1 +
  1 +
  2 +
  0 +
  0)
  Enc.dflt))))))))
  (IntKind.wrap IntKind.i64
  (IntKind.wrap IntKind.u64
  (Int.ofNat
  (BitVec.toNat
  (BitVec.ofInt 64
  (0 : Int) |||
  BitVec.ofInt 64
  (IntKind.wrap IntKind.u64
  (U8.v
  (List.getD b
  (k + 1 +
  0 +
  0)
  Enc.dflt))))))))
  (IntKind.wrap IntKind.i64
  (IntKind.wrap IntKind.u64
  (Int.ofNat
  (BitVec.toNat
  (BitVec.ofInt 64
  (IntKind.wrap IntKind.u64
  (IntKind.wrap
  IntKind.u64
  (Int.ofNat
  (BitVec.toNat
  (BitVec.ofInt
  64
  (IntKind.wrap
  IntKind.u64
  (IntKind.wrap
  IntKind.u64
  (Int.ofNat
  (BitVec.toNat
  (BitVec.ofInt
  (64 :
  Nat)
  (IntKind.wrap
  IntKind.u64
  (IntKind.wrap
  IntKind.u64
  (Int.ofNat
  (BitVec.toNat
  (BitVec.ofInt
  (64 :
  Nat)
  (IntKind.wrap
  IntKind.u64
  (IntKind.wrap
  IntKind.u64
  (Int.ofNat
  (BitVec.toNat
  (BitVec.ofInt
  (64 :
  Nat)
  (IntKind.wrap
  IntKind.u64
  (IntKind.wrap
  IntKind.u64
  (Int.ofNat
  (BitVec.toNat
  (BitVec.ofInt
  (64 :
  Nat)
  (IntKind.wrap
  IntKind.u64
  (IntKind.wrap
  IntKind.u64
  (Int.ofNat
  (BitVec.toNat
  (BitVec.ofInt
  (64 :
  Nat)
  (IntKind.wrap
  IntKind.u64
  (IntKind.wrap
  IntKind.u64
  (Int.ofNat
  (BitVec.toNat
  (BitVec.ofInt
  (64 :
  Nat)
  (0 :
  Int) |||
  BitVec.ofInt
  (64 :
  Nat)
  (IntKind.wrap
  IntKind.u64
  (U8.v
  (List.getD
  b
  (k +
  (1 :
  Nat) +
  (1 :
  Nat) +
  (2 :
  Nat) +
  (1 :
  Nat) +
  (0 :
  Nat) +
  (0 :
  Nat))
  Enc.dflt)))))) *
  (256 :
  Int))) |||
  BitVec.ofInt
  (64 :
  Nat)
  (IntKind.wrap
  IntKind.u64
  (U8.v
  (List.getD
  b
  (k +
  (1 :
  Nat) +
  (1 :
  Nat) +
  (2 :
  Nat) +
  (1 :
  Nat) +
  (0 :
  Nat) +
  (1 :
  Nat))
  Enc.dflt)))))) *
  (256 :
  Int))) |||
  BitVec.ofInt
  (64 :
  Nat)
  (IntKind.wrap
  IntKind.u64
  (U8.v
  (List.getD
  b
  (k +
  (1 :
  Nat) +
  (1 :
  Nat) +
  (2 :
  Nat) +
  (1 :
  Nat) +
  (0 :
  Nat) +
  (2 :
  Nat))
  Enc.dflt)))))) *
  (256 :
  Int))) |||
  BitVec.ofInt
  (64 :
  Nat)
  (IntKind.wrap
  IntKind.u64
  (U8.v
  (List.getD
  b
  (k +
  (1 :
  Nat) +
  (1 :
  Nat) +
  (2 :
  Nat) +
  (1 :
  Nat) +
  (0 :
  Nat) +
  (3 :
  Nat))
  Enc.dflt)))))) *
  (256 :
  Int))) |||
  BitVec.ofInt
  (64 :
  Nat)
  (IntKind.wrap
  IntKind.u64
  (U8.v
  (List.getD
  b
  (k +
  (1 :
  Nat) +
  (1 :
  Nat) +
  (2 :
  Nat) +
  (1 :
  Nat) +
  (0 :
  Nat) +
  (4 :
  Nat))
  Enc.dflt)))))) *
  (256 :
  Int))) |||
  BitVec.ofInt
  (64 :
  Nat)
  (IntKind.wrap
  IntKind.u64
  (U8.v
  (List.getD
  b
  (k +
  (1 :
  Nat) +
  (1 :
  Nat) +
  (2 :
  Nat) +
  (1 :
  Nat) +
  (0 :
  Nat) +
  (5 :
  Nat))
  Enc.dflt)))))) *
  (256 :
  Int))) |||
  BitVec.ofInt
  64
  (IntKind.wrap
  IntKind.u64
  (U8.v
  (List.getD
  b
  (k +
  (1 :
  Nat) +
  (1 :
  Nat) +
  (2 :
  Nat) +
  (1 :
  Nat) +
  (0 :
  Nat) +
  (6 :
  Nat))
  Enc.dflt)))))) *
  (256 : Int))) |||
  BitVec.ofInt 64
  (IntKind.wrap IntKind.u64
  (U8.v
  (List.getD b
  (k + 1 +
  (1 :
  Nat) +
  2 +
  1 +
  0 +
  7)
  Enc.dflt))))))))
  0))))))))))))))))))
  (br
  (IntKind.wrap IntKind.i64
  (IntKind.wrap IntKind.u64
  (Int.ofNat
  (BitVec.toNat
  (BitVec.ofInt 64 (0 : Int) |||
  BitVec.ofInt 64
  (IntKind.wrap IntKind.u64
  (U8.v
  (List.getD b (k + 1 + 0 + 0)
  Enc.dflt))))))) ==
  (5 : Int))
  (br
  (decide
  ((8 : Int) >
  Int.ofNat (m - 1 - 1 - 2 - 1)))
  (br
  (IntKind.wrap IntKind.i64
  (IntKind.wrap IntKind.u64
  (Int.ofNat
  (BitVec.toNat
  (BitVec.ofInt 64 (0 : Int) |||
  BitVec.ofInt 64
  (IntKind.wrap IntKind.u64
  (U8.v
  (List.getD b
  (k + 1 + 0 + 0)
  Enc.dflt))))))) ==
  (5 : Int))
  (need (Nat.ble (List.length l + 1) 1000000)
  (need
  (true && Nat.ble (0 + List.length l) (List.length l))
  (onP N AX.normal
  (shpTkB b l c cl n
  (IntKind.wrap IntKind.i64
  (IntKind.wrap IntKind.u64
  (Int.ofNat
  (BitVec.toNat
  (BitVec.ofInt 64 (0 : Int) |||
  BitVec.ofInt 64
  (IntKind.wrap IntKind.u64
  (U8.v
  (List.getD b (k + 0 + 0)
  Enc.dflt))))))))
  (IntKind.wrap IntKind.i64
  (IntKind.wrap IntKind.u64
  (Int.ofNat
  (BitVec.toNat
  (BitVec.ofInt 64 (0 : Int) |||
  BitVec.ofInt 64
  (IntKind.wrap IntKind.u64
  (U8.v
  (List.getD b
  (k + 1 + 0 + 0)
  Enc.dflt))))))))
  (IntKind.wrap IntKind.i64
  (IntKind.wrap IntKind.u64
  (Int.ofNat
  (BitVec.toNat
  (BitVec.ofInt 64
  (IntKind.wrap IntKind.u64
  (IntKind.wrap IntKind.u64
  (Int.ofNat
  (BitVec.toNat
  (BitVec.ofInt 64 (0 : Int) |||
  BitVec.ofInt 64
  (IntKind.wrap IntKind.u64
  (U8.v
  (List.getD b
  (k + 1 + 1 +
  0 +
  0)
  Enc.dflt)))))) *
  (256 : Int))) |||
  BitVec.ofInt 64
  (IntKind.wrap IntKind.u64
  (U8.v
  (List.getD b
  (k + 1 + 1 + 0 +
  1)
  Enc.dflt))))))))
  (IntKind.wrap IntKind.i64
  (IntKind.wrap IntKind.u64
  (Int.ofNat
  (BitVec.toNat
  (BitVec.ofInt 64 (0 : Int) |||
  BitVec.ofInt 64
  (IntKind.wrap IntKind.u64
  (U8.v
  (List.getD b
  (k + 1 + 1 + 2 +
  0 +
  0)
  Enc.dflt))))))))
  (IntKind.wrap IntKind.i64
  (IntKind.wrap IntKind.u64
  (Int.ofNat
  (BitVec.toNat
  (BitVec.ofInt 64 (0 : Int) |||
  BitVec.ofInt 64
  (IntKind.wrap IntKind.u64
  (U8.v
  (List.getD b
  (k + 1 + 0 + 0)
  Enc.dflt))))))))
  (0 : Int) 0))))
  (br
  (IntKind.wrap IntKind.i64
  (IntKind.wrap IntKind.u64
  (Int.ofNat
  (BitVec.toNat
  (BitVec.ofInt 64 (0 : Int) |||
  BitVec.ofInt 64
  (IntKind.wrap IntKind.u64
  (U8.v
  (List.getD b
  (k + 1 + 0 + 0)
  Enc.dflt))))))) ==
  (2 : Int))
  (need (Nat.ble (List.length l + 1) 1000000)
  (need
  (true && Nat.ble (0 + List.length l) (List.length l))
  (onP N AX.normal
  (shpTkB b l c cl n
  (IntKind.wrap IntKind.i64
  (IntKind.wrap IntKind.u64
  (Int.ofNat
  (BitVec.toNat
  (BitVec.ofInt 64 (0 : Int) |||
  BitVec.ofInt 64
  (IntKind.wrap IntKind.u64
  (U8.v
  (List.getD b (k + 0 + 0)
  Enc.dflt))))))))
  (IntKind.wrap IntKind.i64
  (IntKind.wrap IntKind.u64
  (Int.ofNat
  (BitVec.toNat
  (BitVec.ofInt 64 (0 : Int) |||
  BitVec.ofInt 64
  (IntKind.wrap IntKind.u64
  (U8.v
  (List.getD b
  (k + 1 + 0 + 0)
  Enc.dflt))))))))
  (IntKind.wrap IntKind.i64
  (IntKind.wrap IntKind.u64
  (Int.ofNat
  (BitVec.toNat
  (BitVec.ofInt 64
  (IntKind.wrap IntKind.u64
  (IntKind.wrap IntKind.u64
  (Int.ofNat
  (BitVec.toNat
  (BitVec.ofInt 64
  (0 : Int) |||
  BitVec.ofInt 64
  (IntKind.wrap IntKind.u64
  (U8.v
  (List.getD b
  (k + 1 +
  1 +
  0 +
  0)
  Enc.dflt)))))) *
  (256 : Int))) |||
  BitVec.ofInt 64
  (IntKind.wrap IntKind.u64
  (U8.v
  (List.getD b
  (k + 1 + 1 + 0 +
  1)
  Enc.dflt))))))))
  (IntKind.wrap IntKind.i64
  (IntKind.wrap IntKind.u64
  (Int.ofNat
  (BitVec.toNat
  (BitVec.ofInt 64 (0 : Int) |||
  BitVec.ofInt 64
  (IntKind.wrap IntKind.u64
  (U8.v
  (List.getD b
  (k + 1 + 1 + 2 +
  0 +
  0)
  Enc.dflt))))))))
  (IntKind.wrap IntKind.i64
  (IntKind.wrap IntKind.u64
  (Int.ofNat
  (BitVec.toNat
  (BitVec.ofInt 64 (0 : Int) |||
  BitVec.ofInt 64
  (IntKind.wrap IntKind.u64
  (U8.v
  (List.getD b
  (k + 1 + 0 + 0)
  Enc.dflt))))))))
  (0 : Int) 0))))
  (br
  (IntKind.wrap IntKind.i64
  (IntKind.wrap IntKind.u64
  (Int.ofNat
  (BitVec.toNat
  (BitVec.ofInt 64 (0 : Int) |||
  BitVec.ofInt 64
  (IntKind.wrap IntKind.u64
  (U8.v
  (List.getD b
  (k + 1 + 0 + 0)
  Enc.dflt))))))) ==
  (3 : Int))
  (need (Nat.ble (List.length l + 1) 1000000)
  (need
  (true &&
  Nat.ble (0 + List.length l) (List.length l))
  (onP N AX.normal
  (shpTkB b l c cl n
  (IntKind.wrap IntKind.i64
  (IntKind.wrap IntKind.u64
  (Int.ofNat
  (BitVec.toNat
  (BitVec.ofInt 64 (0 : Int) |||
  BitVec.ofInt 64
  (IntKind.wrap IntKind.u64
  (U8.v
  (List.getD b (k + 0 + 0)
  Enc.dflt))))))))
  (IntKind.wrap IntKind.i64
  (IntKind.wrap IntKind.u64
  (Int.ofNat
  (BitVec.toNat
  (BitVec.ofInt 64 (0 : Int) |||
  BitVec.ofInt 64
  (IntKind.wrap IntKind.u64
  (U8.v
  (List.getD b
  (k + 1 + 0 +
  0)
  Enc.dflt))))))))
  (IntKind.wrap IntKind.i64
  (IntKind.wrap IntKind.u64
  (Int.ofNat
  (BitVec.toNat
  (BitVec.ofInt 64
  (IntKind.wrap IntKind.u64
  (IntKind.wrap IntKind.u64
  (Int.ofNat
  (BitVec.toNat
  (BitVec.ofInt 64
  (0 : Int) |||
  BitVec.ofInt 64
  (IntKind.wrap IntKind.u64
  (U8.v
  (List.getD b
  (k + 1 +
  1 +
  0 +
  0)
  Enc.dflt)))))) *
  (256 : Int))) |||
  BitVec.ofInt 64
  (IntKind.wrap IntKind.u64
  (U8.v
  (List.getD b
  (k + 1 + 1 +
  0 +
  1)
  Enc.dflt))))))))
  (IntKind.wrap IntKind.i64
  (IntKind.wrap IntKind.u64
  (Int.ofNat
  (BitVec.toNat
  (BitVec.ofInt 64 (0 : Int) |||
  BitVec.ofInt 64
  (IntKind.wrap IntKind.u64
  (U8.v
  (List.getD b
  (k + 1 + 1 +
  2 +
  0 +
  0)
  Enc.dflt))))))))
  (IntKind.wrap IntKind.i64
  (IntKind.wrap IntKind.u64
  (Int.ofNat
  (BitVec.toNat
  (BitVec.ofInt 64 (0 : Int) |||
  BitVec.ofInt 64
  (IntKind.wrap IntKind.u64
  (U8.v
  (List.getD b
  (k + 1 + 0 +
  0)
  Enc.dflt))))))))
  (0 : Int) 0))))
  (need (Nat.ble (List.length l + 1) 1000000)
  (need
  (true &&
  Nat.ble (0 + List.length l) (List.length l))
  (onP N AX.normal
  (shpTkB b l c cl n
  (IntKind.wrap IntKind.i64
  (IntKind.wrap IntKind.u64
  (Int.ofNat
  (BitVec.toNat
  (BitVec.ofInt 64 (0 : Int) |||
  BitVec.ofInt 64
  (IntKind.wrap IntKind.u64
  (U8.v
  (List.getD b (k + 0 + 0)
  Enc.dflt))))))))
  (IntKind.wrap IntKind.i64
  (IntKind.wrap IntKind.u64
  (Int.ofNat
  (BitVec.toNat
  (BitVec.ofInt 64 (0 : Int) |||
  BitVec.ofInt 64
  (IntKind.wrap IntKind.u64
  (U8.v
  (List.getD b
  (k + 1 + 0 +
  0)
  Enc.dflt))))))))
  (IntKind.wrap IntKind.i64
  (IntKind.wrap IntKind.u64
  (Int.ofNat
  (BitVec.toNat
  (BitVec.ofInt 64
  (IntKind.wrap IntKind.u64
  (IntKind.wrap IntKind.u64
  (Int.ofNat
  (BitVec.toNat
  (BitVec.ofInt 64
  (0 : Int) |||
  BitVec.ofInt 64
  (IntKind.wrap IntKind.u64
  (U8.v
  (List.getD b
  (k + 1 +
  1 +
  0 +
  0)
  Enc.dflt)))))) *
  (256 : Int))) |||
  BitVec.ofInt 64
  (IntKind.wrap IntKind.u64
  (U8.v
  (List.getD b
  (k + 1 + 1 +
  0 +
  1)
  Enc.dflt))))))))
  (IntKind.wrap IntKind.i64
  (IntKind.wrap IntKind.u64
  (Int.ofNat
  (BitVec.toNat
  (BitVec.ofInt 64 (0 : Int) |||
  BitVec.ofInt 64
  (IntKind.wrap IntKind.u64
  (U8.v
  (List.getD b
  (k + 1 + 1 +
  2 +
  0 +
  0)
  Enc.dflt))))))))
  (IntKind.wrap IntKind.i64
  (IntKind.wrap IntKind.u64
  (Int.ofNat
  (BitVec.toNat
  (BitVec.ofInt 64 (0 : Int) |||
  BitVec.ofInt 64
  (IntKind.wrap IntKind.u64
  (U8.v
  (List.getD b
  (k + 1 + 0 +
  0)
  Enc.dflt))))))))
  (0 : Int) 0)))))))
  (need
  (Nat.ble 8
  (m - 1 - 1 - 2 - 1))
  (need
  (Nat.ble 0
  (k + 1 + 1 + 2 + 1 +
  0 +
  0) &&
  Nat.blt
  (k + 1 + 1 + 2 + 1 +
  0 +
  0)
  (List.length b))
  (need
  (Nat.ble 0
  (k + 1 + 1 + 2 + 1 +
  0 +
  1) &&
  Nat.blt
  (k + 1 + 1 + 2 + 1 +
  0 +
  1)
  (List.length b))
  (need
  (Nat.ble 0
  (k + 1 + 1 + 2 + 1 +
  0 +
  2) &&
  Nat.blt
  (k + 1 + 1 + 2 + 1 +
  0 +
  2)
  (List.length b))
  (need
  (Nat.ble 0
  (k + 1 + 1 + 2 + 1 +
  0 +
  3) &&
  Nat.blt
  (k + 1 + 1 + 2 + 1 +
  0 +
  3)
  (List.length b))
  (need
  (Nat.ble 0
  (k + 1 + 1 + 2 + 1 +
  0 +
  4) &&
  Nat.blt
  (k + 1 + 1 + 2 + 1 +
  0 +
  4)
  (List.length b))
  (need
  (Nat.ble 0
  (k + 1 + 1 + 2 + 1 +
  0 +
  5) &&
  Nat.blt
  (k + 1 + 1 + 2 + 1 +
  0 +
  5)
  (List.length b))
  (need
  (Nat.ble 0
  (k + 1 + 1 + 2 +
  1 +
  0 +
  6) &&
  Nat.blt
  (k + 1 + 1 + 2 +
  1 +
  0 +
  6)
  (List.length b))
  (need
  (Nat.ble 0
  (k + 1 + 1 + 2 +
  1 +
  0 +
  7) &&
  Nat.blt
  (k + 1 + 1 + 2 +
  1 +
  0 +
  7)
  (List.length b))
  (need
  (Nat.ble 8
  (m - 1 - 1 - 2 -
  1))
  (br
  (IntKind.wrap IntKind.i64
  (IntKind.wrap IntKind.u64
  (Int.ofNat
  (BitVec.toNat
  (BitVec.ofInt 64 (0 : Int) |||
  BitVec.ofInt 64
  (IntKind.wrap IntKind.u64
  (U8.v
  (List.getD b
  (k + 1 + 0 +
  0)
  Enc.dflt))))))) ==
  (5 : Int))
  (need
  (Nat.ble (List.length l + 1)
  1000000)
  (need
  (true &&
  Nat.ble (0 + List.length l)
  (List.length l))
  (onP N AX.normal
  (shpTkG b l c cl n
  (k + 1 + 1 + 2 +
  1 +
  8)
  (m - 1 - 1 - 2 -
  1 -
  8)
  (bif
  Nat.beq
  (m - 1 - 1 -
  2 -
  1)
  0 then
  bif
  Nat.beq
  (m - 1 - 1 -
  2)
  0 then
  bif
  Nat.beq
  (m - 1 - 1)
  0 then
  bif
  Nat.beq (m - 1)
  0 then
  bif Nat.beq m 0 then cb
  else 0
  else 0
  else 0
  else 0
  else 0)
  (IntKind.wrap IntKind.i64
  (IntKind.wrap IntKind.u64
  (Int.ofNat
  (BitVec.toNat
  (BitVec.ofInt 64
  (0 : Int) |||
  BitVec.ofInt 64
  (IntKind.wrap IntKind.u64
  (U8.v
  (List.getD b
  (k + 0 +
  0)
  Enc.dflt))))))))
  (IntKind.wrap IntKind.i64
  (IntKind.wrap IntKind.u64
  (Int.ofNat
  (BitVec.toNat
  (BitVec.ofInt 64
  (0 : Int) |||
  BitVec.ofInt 64
  (IntKind.wrap IntKind.u64
  (U8.v
  (List.getD b
  (k + 1 +
  0 +
  0)
  Enc.dflt))))))))
  (IntKind.wrap IntKind.i64
  (IntKind.wrap IntKind.u64
  (Int.ofNat
  (BitVec.toNat
  (BitVec.ofInt 64
  (IntKind.wrap IntKind.u64
  (IntKind.wrap IntKind.u64
  (Int.ofNat
  (BitVec.toNat
  (BitVec.ofInt
  64
  (0 : Int) |||
  BitVec.ofInt
  64
  (IntKind.wrap
  IntKind.u64
  (U8.v
  (List.getD
  b
  (k +
  (1 :
  Nat) +
  (1 :
  Nat) +
  (0 :
  Nat) +
  (0 :
  Nat))
  Enc.dflt)))))) *
  (256 : Int))) |||
  BitVec.ofInt 64
  (IntKind.wrap IntKind.u64
  (U8.v
  (List.getD b
  (k + 1 +
  1 +
  0 +
  1)
  Enc.dflt))))))))
  (IntKind.wrap IntKind.i64
  (IntKind.wrap IntKind.u64
  (Int.ofNat
  (BitVec.toNat
  (BitVec.ofInt 64
  (0 : Int) |||
  BitVec.ofInt 64
  (IntKind.wrap IntKind.u64
  (U8.v
  (List.getD b
  (k + 1 +
  1 +
  2 +
  0 +
  0)
  Enc.dflt))))))))
  (IntKind.wrap IntKind.i64
  (IntKind.wrap IntKind.u64
  (Int.ofNat
  (BitVec.toNat
  (BitVec.ofInt 64
  (0 : Int) |||
  BitVec.ofInt 64
  (IntKind.wrap IntKind.u64
  (U8.v
  (List.getD b
  (k + 1 +
  0 +
  0)
  Enc.dflt))))))))
  (0 : Int)
  (Int.toNat
  (IntKind.wrap IntKind.u64
  (Int.ofNat
  (BitVec.toNat
  (BitVec.ofInt 64
  (IntKind.wrap IntKind.u64
  (IntKind.wrap IntKind.u64
  (Int.ofNat
  (BitVec.toNat
  (BitVec.ofInt
  64
  (IntKind.wrap
  IntKind.u64
  (IntKind.wrap
  IntKind.u64
  (Int.ofNat
  (BitVec.toNat
  (BitVec.ofInt
  (64 :
  Nat)
  (IntKind.wrap
  IntKind.u64
  (IntKind.wrap
  IntKind.u64
  (Int.ofNat
  (BitVec.toNat
  (BitVec.ofInt
  (64 :
  Nat)
  (IntKind.wrap
  IntKind.u64
  (IntKind.wrap
  IntKind.u64
  (Int.ofNat
  (BitVec.toNat
  (BitVec.ofInt
  (64 :
  Nat)
  (IntKind.wrap
  IntKind.u64
  (IntKind.wrap
  IntKind.u64
  (Int.ofNat
  (BitVec.toNat
  (BitVec.ofInt
  (64 :
  Nat)
  (IntKind.wrap
  IntKind.u64
  (IntKind.wrap
  IntKind.u64
  (Int.ofNat
  (BitVec.toNat
  (BitVec.ofInt
  (64 :
  Nat)
  (IntKind.wrap
  IntKind.u64
  (IntKind.wrap
  IntKind.u64
  (Int.ofNat
  (BitVec.toNat
  (BitVec.ofInt
  (64 :
  Nat)
  (0 :
  Int) |||
  BitVec.ofInt
  (64 :
  Nat)
  (IntKind.wrap
  IntKind.u64
  (U8.v
  (List.getD
  b
  (k +
  (1 :
  Nat) +
  (1 :
  Nat) +
  (2 :
  Nat) +
  (1 :
  Nat) +
  (0 :
  Nat) +
  (0 :
  Nat))
  Enc.dflt)))))) *
  (256 :
  Int))) |||
  BitVec.ofInt
  (64 :
  Nat)
  (IntKind.wrap
  IntKind.u64
  (U8.v
  (List.getD
  b
  (k +
  (1 :
  Nat) +
  (1 :
  Nat) +
  (2 :
  Nat) +
  (1 :
  Nat) +
  (0 :
  Nat) +
  (1 :
  Nat))
  Enc.dflt)))))) *
  (256 :
  Int))) |||
  BitVec.ofInt
  (64 :
  Nat)
  (IntKind.wrap
  IntKind.u64
  (U8.v
  (List.getD
  b
  (k +
  (1 :
  Nat) +
  (1 :
  Nat) +
  (2 :
  Nat) +
  (1 :
  Nat) +
  (0 :
  Nat) +
  (2 :
  Nat))
  Enc.dflt)))))) *
  (256 :
  Int))) |||
  BitVec.ofInt
  (64 :
  Nat)
  (IntKind.wrap
  IntKind.u64
  (U8.v
  (List.getD
  b
  (k +
  (1 :
  Nat) +
  (1 :
  Nat) +
  (2 :
  Nat) +
  (1 :
  Nat) +
  (0 :
  Nat) +
  (3 :
  Nat))
  Enc.dflt)))))) *
  (256 :
  Int))) |||
  BitVec.ofInt
  (64 :
  Nat)
  (IntKind.wrap
  IntKind.u64
  (U8.v
  (List.getD
  b
  (k +
  (1 :
  Nat) +
  (1 :
  Nat) +
  (2 :
  Nat) +
  (1 :
  Nat) +
  (0 :
  Nat) +
  (4 :
  Nat))
  Enc.dflt)))))) *
  (256 :
  Int))) |||
  BitVec.ofInt
  (64 :
  Nat)
  (IntKind.wrap
  IntKind.u64
  (U8.v
  (List.getD
  b
  (k +
  (1 :
  Nat) +
  (1 :
  Nat) +
  (2 :
  Nat) +
  (1 :
  Nat) +
  (0 :
  Nat) +
  (5 :
  Nat))
  Enc.dflt)))))) *
  (256 :
  Int))) |||
  BitVec.ofInt
  64
  (IntKind.wrap
  IntKind.u64
  (U8.v
  (List.getD
  b
  (k +
  (1 :
  Nat) +
  (1 :
  Nat) +
  (2 :
  Nat) +
  (1 :
  Nat) +
  (0 :
  Nat) +
  (6 :
  Nat))
  Enc.dflt)))))) *
  (256 : Int))) |||
  BitVec.ofInt 64
  (IntKind.wrap IntKind.u64
  (U8.v
  (List.getD b
  (k + 1 +
  1 +
  2 +
  1 +
  0 +
  7)
  Enc.dflt))))))))))))
  (br
  (IntKind.wrap IntKind.i64
  (IntKind.wrap IntKind.u64
  (Int.ofNat
  (BitVec.toNat
  (BitVec.ofInt 64
  (0 : Int) |||
  BitVec.ofInt 64
  (IntKind.wrap IntKind.u64
  (U8.v
  (List.getD b
  (k + 1 +
  0 +
  0)
  Enc.dflt))))))) ==
  (2 : Int))
  (need
  (Nat.ble (List.length l + 1)
  1000000)
  (need
  (true &&
  Nat.ble (0 + List.length l)
  (List.length l))
  (onP N AX.normal
  (shpTkG b l c cl n
  (k + 1 + 1 +
  2 +
  1 +
  8)
  (m - 1 - 1 -
  2 -
  1 -
  8)
  (bif
  Nat.beq
  (m - 1 - 1 -
  2 -
  1)
  0 then
  bif
  Nat.beq
  (m - 1 - 1 -
  2)
  0 then
  bif
  Nat.beq
  (m - 1 - 1)
  0 then
  bif
  Nat.beq (m - 1)
  0 then
  bif Nat.beq m 0 then
  cb
  else 0
  else 0
  else 0
  else 0
  else 0)
  (IntKind.wrap IntKind.i64
  (IntKind.wrap IntKind.u64
  (Int.ofNat
  (BitVec.toNat
  (BitVec.ofInt 64
  (0 : Int) |||
  BitVec.ofInt 64
  (IntKind.wrap IntKind.u64
  (U8.v
  (List.getD b
  (k + 0 +
  0)
  Enc.dflt))))))))
  (IntKind.wrap IntKind.i64
  (IntKind.wrap IntKind.u64
  (Int.ofNat
  (BitVec.toNat
  (BitVec.ofInt 64
  (0 : Int) |||
  BitVec.ofInt 64
  (IntKind.wrap IntKind.u64
  (U8.v
  (List.getD b
  (k + 1 +
  0 +
  0)
  Enc.dflt))))))))
  (IntKind.wrap IntKind.i64
  (IntKind.wrap IntKind.u64
  (Int.ofNat
  (BitVec.toNat
  (BitVec.ofInt 64
  (IntKind.wrap IntKind.u64
  (IntKind.wrap
  IntKind.u64
  (Int.ofNat
  (BitVec.toNat
  (BitVec.ofInt
  64
  (0 :
  Int) |||
  BitVec.ofInt
  64
  (IntKind.wrap
  IntKind.u64
  (U8.v
  (List.getD
  b
  (k +
  (1 :
  Nat) +
  (1 :
  Nat) +
  (0 :
  Nat) +
  (0 :
  Nat))
  Enc.dflt)))))) *
  (256 : Int))) |||
  BitVec.ofInt 64
  (IntKind.wrap IntKind.u64
  (U8.v
  (List.getD b
  (k + 1 +
  1 +
  0 +
  1)
  Enc.dflt))))))))
  (IntKind.wrap IntKind.i64
  (IntKind.wrap IntKind.u64
  (Int.ofNat
  (BitVec.toNat
  (BitVec.ofInt 64
  (0 : Int) |||
  BitVec.ofInt 64
  (IntKind.wrap IntKind.u64
  (U8.v
  (List.getD b
  (k + 1 +
  1 +
  2 +
  0 +
  0)
  Enc.dflt))))))))
  (IntKind.wrap IntKind.i64
  (IntKind.wrap IntKind.u64
  (Int.ofNat
  (BitVec.toNat
  (BitVec.ofInt 64
  (0 : Int) |||
  BitVec.ofInt 64
  (IntKind.wrap IntKind.u64
  (U8.v
  (List.getD b
  (k + 1 +
  0 +
  0)
  Enc.dflt))))))))
  (IntKind.wrap IntKind.i64
  (IntKind.wrap IntKind.i16
  (IntKind.wrap IntKind.u64
  (Int.ofNat
  (BitVec.toNat
  (BitVec.ofInt 64
  (IntKind.wrap
  IntKind.u64
  (IntKind.wrap
  IntKind.u64
  (Int.ofNat
  (BitVec.toNat
  (BitVec.ofInt
  64
  (IntKind.wrap
  IntKind.u64
  (IntKind.wrap
  IntKind.u64
  (Int.ofNat
  (BitVec.toNat
  (BitVec.ofInt
  (64 :
  Nat)
  (IntKind.wrap
  IntKind.u64
  (IntKind.wrap
  IntKind.u64
  (Int.ofNat
  (BitVec.toNat
  (BitVec.ofInt
  (64 :
  Nat)
  (IntKind.wrap
  IntKind.u64
  (IntKind.wrap
  IntKind.u64
  (Int.ofNat
  (BitVec.toNat
  (BitVec.ofInt
  (64 :
  Nat)
  (IntKind.wrap
  IntKind.u64
  (IntKind.wrap
  IntKind.u64
  (Int.ofNat
  (BitVec.toNat
  (BitVec.ofInt
  (64 :
  Nat)
  (IntKind.wrap
  IntKind.u64
  (IntKind.wrap
  IntKind.u64
  (Int.ofNat
  (BitVec.toNat
  (BitVec.ofInt
  (64 :
  Nat)
  (IntKind.wrap
  IntKind.u64
  (IntKind.wrap
  IntKind.u64
  (Int.ofNat
  (BitVec.toNat
  (BitVec.ofInt
  (64 :
  Nat)
  (0 :
  Int) |||
  BitVec.ofInt
  (64 :
  Nat)
  (IntKind.wrap
  IntKind.u64
  (U8.v
  (List.getD
  b
  (k +
  (1 :
  Nat) +
  (1 :
  Nat) +
  (2 :
  Nat) +
  (1 :
  Nat) +
  (0 :
  Nat) +
  (0 :
  Nat))
  Enc.dflt)))))) *
  (256 :
  Int))) |||
  BitVec.ofInt
  (64 :
  Nat)
  (IntKind.wrap
  IntKind.u64
  (U8.v
  (List.getD
  b
  (k +
  (1 :
  Nat) +
  (1 :
  Nat) +
  (2 :
  Nat) +
  (1 :
  Nat) +
  (0 :
  Nat) +
  (1 :
  Nat))
  Enc.dflt)))))) *
  (256 :
  Int))) |||
  BitVec.ofInt
  (64 :
  Nat)
  (IntKind.wrap
  IntKind.u64
  (U8.v
  (List.getD
  b
  (k +
  (1 :
  Nat) +
  (1 :
  Nat) +
  (2 :
  Nat) +
  (1 :
  Nat) +
  (0 :
  Nat) +
  (2 :
  Nat))
  Enc.dflt)))))) *
  (256 :
  Int))) |||
  BitVec.ofInt
  (64 :
  Nat)
  (IntKind.wrap
  IntKind.u64
  (U8.v
  (List.getD
  b
  (k +
  (1 :
  Nat) +
  (1 :
  Nat) +
  (2 :
  Nat) +
  (1 :
  Nat) +
  (0 :
  Nat) +
  (3 :
  Nat))
  Enc.dflt)))))) *
  (256 :
  Int))) |||
  BitVec.ofInt
  (64 :
  Nat)
  (IntKind.wrap
  IntKind.u64
  (U8.v
  (List.getD
  b
  (k +
  (1 :
  Nat) +
  (1 :
  Nat) +
  (2 :
  Nat) +
  (1 :
  Nat) +
  (0 :
  Nat) +
  (4 :
  Nat))
  Enc.dflt)))))) *
  (256 :
  Int))) |||
  BitVec.ofInt
  (64 :
  Nat)
  (IntKind.wrap
  IntKind.u64
  (U8.v
  (List.getD
  b
  (k +
  (1 :
  Nat) +
  (1 :
  Nat) +
  (2 :
  Nat) +
  (1 :
  Nat) +
  (0 :
  Nat) +
  (5 :
  Nat))
  Enc.dflt)))))) *
  (256 :
  Int))) |||
  BitVec.ofInt
  64
  (IntKind.wrap
  IntKind.u64
  (U8.v
  (List.getD
  b
  (k +
  (1 :
  Nat) +
  (1 :
  Nat) +
  (2 :
  Nat) +
  (1 :
  Nat) +
  (0 :
  Nat) +
  (6 :
  Nat))
  Enc.dflt)))))) *
  (256 : Int))) |||
  BitVec.ofInt 64
  (IntKind.wrap
  IntKind.u64
  (U8.v
  (List.getD b
  (k + 1 +
  (1 :
  Nat) +
  (2 :
  Nat) +
  1 +
  0 +
  7)
  Enc.dflt)))))))))
  0))))
  (br
  (IntKind.wrap IntKind.i64
  (IntKind.wrap IntKind.u64
  (Int.ofNat
  (BitVec.toNat
  (BitVec.ofInt 64
  (0 : Int) |||
  BitVec.ofInt 64
  (IntKind.wrap IntKind.u64
  (U8.v
  (List.getD b
  (k + 1 +
  0 +
  0)
  Enc.dflt))))))) ==
  (3 : Int))
  (need
  (Nat.ble (List.length l + 1)
  1000000)
  (need
  (true &&
  Nat.ble (0 + List.length l)
  (List.length l))
  (onP N AX.normal
  (shpTkG b l c cl n
  (k + 1 + 1 +
  2 +
  1 +
  8)
  (m - 1 - 1 -
  2 -
  1 -
  8)
  (bif
  Nat.beq
  (m - 1 - 1 -
  2 -
  1)
  0 then
  bif
  Nat.beq
  (m - 1 - 1 -
  2)
  0 then
  bif
  Nat.beq
  (m - 1 -
  1)
  0 then
  bif
  Nat.beq (m - 1)
  0 then
  bif Nat.beq m 0 then
  cb
  else 0
  else 0
  else 0
  else 0
  else 0)
  (IntKind.wrap IntKind.i64
  (IntKind.wrap IntKind.u64
  (Int.ofNat
  (BitVec.toNat
  (BitVec.ofInt 64
  (0 : Int) |||
  BitVec.ofInt 64
  (IntKind.wrap
  IntKind.u64
  (U8.v
  (List.getD b
  (k + 0 +
  0)
  Enc.dflt))))))))
  (IntKind.wrap IntKind.i64
  (IntKind.wrap IntKind.u64
  (Int.ofNat
  (BitVec.toNat
  (BitVec.ofInt 64
  (0 : Int) |||
  BitVec.ofInt 64
  (IntKind.wrap
  IntKind.u64
  (U8.v
  (List.getD b
  (k + 1 +
  0 +
  0)
  Enc.dflt))))))))
  (IntKind.wrap IntKind.i64
  (IntKind.wrap IntKind.u64
  (Int.ofNat
  (BitVec.toNat
  (BitVec.ofInt 64
  (IntKind.wrap
  IntKind.u64
  (IntKind.wrap
  IntKind.u64
  (Int.ofNat
  (BitVec.toNat
  (BitVec.ofInt
  64
  (0 :
  Int) |||
  BitVec.ofInt
  64
  (IntKind.wrap
  IntKind.u64
  (U8.v
  (List.getD
  b
  (k +
  (1 :
  Nat) +
  (1 :
  Nat) +
  (0 :
  Nat) +
  (0 :
  Nat))
  Enc.dflt)))))) *
  (256 : Int))) |||
  BitVec.ofInt 64
  (IntKind.wrap
  IntKind.u64
  (U8.v
  (List.getD b
  (k + 1 +
  1 +
  0 +
  1)
  Enc.dflt))))))))
  (IntKind.wrap IntKind.i64
  (IntKind.wrap IntKind.u64
  (Int.ofNat
  (BitVec.toNat
  (BitVec.ofInt 64
  (0 : Int) |||
  BitVec.ofInt 64
  (IntKind.wrap
  IntKind.u64
  (U8.v
  (List.getD b
  (k + 1 +
  (1 :
  Nat) +
  2 +
  0 +
  0)
  Enc.dflt))))))))
  (IntKind.wrap IntKind.i64
  (IntKind.wrap IntKind.u64
  (Int.ofNat
  (BitVec.toNat
  (BitVec.ofInt 64
  (0 : Int) |||
  BitVec.ofInt 64
  (IntKind.wrap
  IntKind.u64
  (U8.v
  (List.getD b
  (k + 1 +
  0 +
  0)
  Enc.dflt))))))))
  (IntKind.wrap IntKind.i64
  (IntKind.wrap IntKind.i32
  (IntKind.wrap IntKind.u64
  (Int.ofNat
  (BitVec.toNat
  (BitVec.ofInt 64
  (IntKind.wrap
  IntKind.u64
  (IntKind.wrap
  IntKind.u64
  (Int.ofNat
  (BitVec.toNat
  (BitVec.ofInt
  (64 :
  Nat)
  (IntKind.wrap
  IntKind.u64
  (IntKind.wrap
  IntKind.u64
  (Int.ofNat
  (BitVec.toNat
  (BitVec.ofInt
  (64 :
  Nat)
  (IntKind.wrap
  IntKind.u64
  (IntKind.wrap
  IntKind.u64
  (Int.ofNat
  (BitVec.toNat
  (BitVec.ofInt
  (64 :
  Nat)
  (IntKind.wrap
  IntKind.u64
  (IntKind.wrap
  IntKind.u64
  (Int.ofNat
  (BitVec.toNat
  (BitVec.ofInt
  (64 :
  Nat)
  (IntKind.wrap
  IntKind.u64
  (IntKind.wrap
  IntKind.u64
  (Int.ofNat
  (BitVec.toNat
  (BitVec.ofInt
  (64 :
  Nat)
  (IntKind.wrap
  IntKind.u64
  (IntKind.wrap
  IntKind.u64
  (Int.ofNat
  (BitVec.toNat
  (BitVec.ofInt
  (64 :
  Nat)
  (IntKind.wrap
  IntKind.u64
  (IntKind.wrap
  IntKind.u64
  (Int.ofNat
  (BitVec.toNat
  (BitVec.ofInt
  (64 :
  Nat)
  (0 :
  Int) |||
  BitVec.ofInt
  (64 :
  Nat)
  (IntKind.wrap
  IntKind.u64
  (U8.v
  (List.getD
  b
  (k +
  (1 :
  Nat) +
  (1 :
  Nat) +
  (2 :
  Nat) +
  (1 :
  Nat) +
  (0 :
  Nat) +
  (0 :
  Nat))
  Enc.dflt)))))) *
  (256 :
  Int))) |||
  BitVec.ofInt
  (64 :
  Nat)
  (IntKind.wrap
  IntKind.u64
  (U8.v
  (List.getD
  b
  (k +
  (1 :
  Nat) +
  (1 :
  Nat) +
  (2 :
  Nat) +
  (1 :
  Nat) +
  (0 :
  Nat) +
  (1 :
  Nat))
  Enc.dflt)))))) *
  (256 :
  Int))) |||
  BitVec.ofInt
  (64 :
  Nat)
  (IntKind.wrap
  IntKind.u64
  (U8.v
  (List.getD
  b
  (k +
  (1 :
  Nat) +
  (1 :
  Nat) +
  (2 :
  Nat) +
  (1 :
  Nat) +
  (0 :
  Nat) +
  (2 :
  Nat))
  Enc.dflt)))))) *
  (256 :
  Int))) |||
  BitVec.ofInt
  (64 :
  Nat)
  (IntKind.wrap
  IntKind.u64
  (U8.v
  (List.getD
  b
  (k +
  (1 :
  Nat) +
  (1 :
  Nat) +
  (2 :
  Nat) +
  (1 :
  Nat) +
  (0 :
  Nat) +
  (3 :
  Nat))
  Enc.dflt)))))) *
  (256 :
  Int))) |||
  BitVec.ofInt
  (64 :
  Nat)
  (IntKind.wrap
  IntKind.u64
  (U8.v
  (List.getD
  b
  (k +
  (1 :
  Nat) +
  (1 :
  Nat) +
  (2 :
  Nat) +
  (1 :
  Nat) +
  (0 :
  Nat) +
  (4 :
  Nat))
  Enc.dflt)))))) *
  (256 :
  Int))) |||
  BitVec.ofInt
  (64 :
  Nat)
  (IntKind.wrap
  IntKind.u64
  (U8.v
  (List.getD
  b
  (k +
  (1 :
  Nat) +
  (1 :
  Nat) +
  (2 :
  Nat) +
  (1 :
  Nat) +
  (0 :
  Nat) +
  (5 :
  Nat))
  Enc.dflt)))))) *
  (256 :
  Int))) |||
  BitVec.ofInt
  (64 :
  Nat)
  (IntKind.wrap
  IntKind.u64
  (U8.v
  (List.getD
  b
  (k +
  (1 :
  Nat) +
  (1 :
  Nat) +
  (2 :
  Nat) +
  (1 :
  Nat) +
  (0 :
  Nat) +
  (6 :
  Nat))
  Enc.dflt)))))) *
  (256 : Int))) |||
  BitVec.ofInt 64
  (IntKind.wrap
  IntKind.u64
  (U8.v
  (List.getD b
  (k + 1 +
  (1 :
  Nat) +
  (2 :
  Nat) +
  (1 :
  Nat) +
  0 +
  7)
  Enc.dflt)))))))))
  0))))
  (need
  (Nat.ble (List.length l + 1)
  1000000)
  (need
  (true &&
  Nat.ble (0 + List.length l)
  (List.length l))
  (onP N AX.normal
  (shpTkG b l c cl n
  (k + 1 + 1 +
  2 +
  1 +
  8)
  (m - 1 - 1 -
  2 -
  1 -
  8)
  (bif
  Nat.beq
  (m - 1 - 1 -
  2 -
  1)
  0 then
  bif
  Nat.beq
  (m - 1 - 1 -
  2)
  0 then
  bif
  Nat.beq
  (m - 1 -
  1)
  0 then
  bif
  Nat.beq (m - 1)
  0 then
  bif Nat.beq m 0 then
  cb
  else 0
  else 0
  else 0
  else 0
  else 0)
  (IntKind.wrap IntKind.i64
  (IntKind.wrap IntKind.u64
  (Int.ofNat
  (BitVec.toNat
  (BitVec.ofInt 64
  (0 : Int) |||
  BitVec.ofInt 64
  (IntKind.wrap
  IntKind.u64
  (U8.v
  (List.getD b
  (k + 0 +
  0)
  Enc.dflt))))))))
  (IntKind.wrap IntKind.i64
  (IntKind.wrap IntKind.u64
  (Int.ofNat
  (BitVec.toNat
  (BitVec.ofInt 64
  (0 : Int) |||
  BitVec.ofInt 64
  (IntKind.wrap
  IntKind.u64
  (U8.v
  (List.getD b
  (k + 1 +
  0 +
  0)
  Enc.dflt))))))))
  (IntKind.wrap IntKind.i64
  (IntKind.wrap IntKind.u64
  (Int.ofNat
  (BitVec.toNat
  (BitVec.ofInt 64
  (IntKind.wrap
  IntKind.u64
  (IntKind.wrap
  IntKind.u64
  (Int.ofNat
  (BitVec.toNat
  (BitVec.ofInt
  64
  (0 :
  Int) |||
  BitVec.ofInt
  64
  (IntKind.wrap
  IntKind.u64
  (U8.v
  (List.getD
  b
  (k +
  (1 :
  Nat) +
  (1 :
  Nat) +
  (0 :
  Nat) +
  (0 :
  Nat))
  Enc.dflt)))))) *
  (256 : Int))) |||
  BitVec.ofInt 64
  (IntKind.wrap
  IntKind.u64
  (U8.v
  (List.getD b
  (k + 1 +
  1 +
  0 +
  1)
  Enc.dflt))))))))
  (IntKind.wrap IntKind.i64
  (IntKind.wrap IntKind.u64
  (Int.ofNat
  (BitVec.toNat
  (BitVec.ofInt 64
  (0 : Int) |||
  BitVec.ofInt 64
  (IntKind.wrap
  IntKind.u64
  (U8.v
  (List.getD b
  (k + 1 +
  (1 :
  Nat) +
  2 +
  0 +
  0)
  Enc.dflt))))))))
  (IntKind.wrap IntKind.i64
  (IntKind.wrap IntKind.u64
  (Int.ofNat
  (BitVec.toNat
  (BitVec.ofInt 64
  (0 : Int) |||
  BitVec.ofInt 64
  (IntKind.wrap
  IntKind.u64
  (U8.v
  (List.getD b
  (k + 1 +
  0 +
  0)
  Enc.dflt))))))))
  (IntKind.wrap IntKind.i64
  (IntKind.wrap IntKind.u64
  (Int.ofNat
  (BitVec.toNat
  (BitVec.ofInt 64
  (IntKind.wrap
  IntKind.u64
  (IntKind.wrap
  IntKind.u64
  (Int.ofNat
  (BitVec.toNat
  (BitVec.ofInt
  64
  (IntKind.wrap
  IntKind.u64
  (IntKind.wrap
  IntKind.u64
  (Int.ofNat
  (BitVec.toNat
  (BitVec.ofInt
  (64 :
  Nat)
  (IntKind.wrap
  IntKind.u64
  (IntKind.wrap
  IntKind.u64
  (Int.ofNat
  (BitVec.toNat
  (BitVec.ofInt
  (64 :
  Nat)
  (IntKind.wrap
  IntKind.u64
  (IntKind.wrap
  IntKind.u64
  (Int.ofNat
  (BitVec.toNat
  (BitVec.ofInt
  (64 :
  Nat)
  (IntKind.wrap
  IntKind.u64
  (IntKind.wrap
  IntKind.u64
  (Int.ofNat
  (BitVec.toNat
  (BitVec.ofInt
  (64 :
  Nat)
  (IntKind.wrap
  IntKind.u64
  (IntKind.wrap
  IntKind.u64
  (Int.ofNat
  (BitVec.toNat
  (BitVec.ofInt
  (64 :
  Nat)
  (IntKind.wrap
  IntKind.u64
  (IntKind.wrap
  IntKind.u64
  (Int.ofNat
  (BitVec.toNat
  (BitVec.ofInt
  (64 :
  Nat)
  (0 :
  Int) |||
  BitVec.ofInt
  (64 :
  Nat)
  (IntKind.wrap
  IntKind.u64
  (U8.v
  (List.getD
  b
  (k +
  (1 :
  Nat) +
  (1 :
  Nat) +
  (2 :
  Nat) +
  (1 :
  Nat) +
  (0 :
  Nat) +
  (0 :
  Nat))
  Enc.dflt)))))) *
  (256 :
  Int))) |||
  BitVec.ofInt
  (64 :
  Nat)
  (IntKind.wrap
  IntKind.u64
  (U8.v
  (List.getD
  b
  (k +
  (1 :
  Nat) +
  (1 :
  Nat) +
  (2 :
  Nat) +
  (1 :
  Nat) +
  (0 :
  Nat) +
  (1 :
  Nat))
  Enc.dflt)))))) *
  (256 :
  Int))) |||
  BitVec.ofInt
  (64 :
  Nat)
  (IntKind.wrap
  IntKind.u64
  (U8.v
  (List.getD
  b
  (k +
  (1 :
  Nat) +
  (1 :
  Nat) +
  (2 :
  Nat) +
  (1 :
  Nat) +
  (0 :
  Nat) +
  (2 :
  Nat))
  Enc.dflt)))))) *
  (256 :
  Int))) |||
  BitVec.ofInt
  (64 :
  Nat)
  (IntKind.wrap
  IntKind.u64
  (U8.v
  (List.getD
  b
  (k +
  (1 :
  Nat) +
  (1 :
  Nat) +
  (2 :
  Nat) +
  (1 :
  Nat) +
  (0 :
  Nat) +
  (3 :
  Nat))
  Enc.dflt)))))) *
  (256 :
  Int))) |||
  BitVec.ofInt
  (64 :
  Nat)
  (IntKind.wrap
  IntKind.u64
  (U8.v
  (List.getD
  b
  (k +
  (1 :
  Nat) +
  (1 :
  Nat) +
  (2 :
  Nat) +
  (1 :
  Nat) +
  (0 :
  Nat) +
  (4 :
  Nat))
  Enc.dflt)))))) *
  (256 :
  Int))) |||
  BitVec.ofInt
  (64 :
  Nat)
  (IntKind.wrap
  IntKind.u64
  (U8.v
  (List.getD
  b
  (k +
  (1 :
  Nat) +
  (1 :
  Nat) +
  (2 :
  Nat) +
  (1 :
  Nat) +
  (0 :
  Nat) +
  (5 :
  Nat))
  Enc.dflt)))))) *
  (256 :
  Int))) |||
  BitVec.ofInt
  64
  (IntKind.wrap
  IntKind.u64
  (U8.v
  (List.getD
  b
  (k +
  (1 :
  Nat) +
  (1 :
  Nat) +
  (2 :
  Nat) +
  (1 :
  Nat) +
  (0 :
  Nat) +
  (6 :
  Nat))
  Enc.dflt)))))) *
  (256 : Int))) |||
  BitVec.ofInt 64
  (IntKind.wrap
  IntKind.u64
  (U8.v
  (List.getD b
  (k + 1 +
  (1 :
  Nat) +
  (2 :
  Nat) +
  1 +
  0 +
  7)
  Enc.dflt))))))))
  0))))))))))))))))))
  (br
  (IntKind.wrap IntKind.i64
  (IntKind.wrap IntKind.u64
  (Int.ofNat
  (BitVec.toNat
  (BitVec.ofInt 64 (0 : Int) |||
  BitVec.ofInt 64
  (IntKind.wrap IntKind.u64
  (U8.v
  (List.getD b (k + 1 + 0 + 0)
  Enc.dflt))))))) ==
  (5 : Int))
  (need (Nat.ble (List.length l + 1) 1000000)
  (need (true && Nat.ble (0 + List.length l) (List.length l))
  (onP N AX.normal
  (shpTkG b l c cl n
  (k + 1 + 1 + 2 + 1 +
  0)
  (m - 1 - 1 - 2 - 1 -
  0)
  (bif
  Nat.beq
  (m - 1 - 1 - 2 - 1)
  0 then
  bif
  Nat.beq (m - 1 - 1 - 2)
  0 then
  bif Nat.beq (m - 1 - 1) 0 then
  bif Nat.beq (m - 1) 0 then
  bif Nat.beq m 0 then cb else 0
  else 0
  else 0
  else 0
  else 0)
  (IntKind.wrap IntKind.i64
  (IntKind.wrap IntKind.u64
  (Int.ofNat
  (BitVec.toNat
  (BitVec.ofInt 64 (0 : Int) |||
  BitVec.ofInt 64
  (IntKind.wrap IntKind.u64
  (U8.v
  (List.getD b (k + 0 + 0)
  Enc.dflt))))))))
  (IntKind.wrap IntKind.i64
  (IntKind.wrap IntKind.u64
  (Int.ofNat
  (BitVec.toNat
  (BitVec.ofInt 64 (0 : Int) |||
  BitVec.ofInt 64
  (IntKind.wrap IntKind.u64
  (U8.v
  (List.getD b
  (k + 1 + 0 + 0)
  Enc.dflt))))))))
  (IntKind.wrap IntKind.i64
  (IntKind.wrap IntKind.u64
  (Int.ofNat
  (BitVec.toNat
  (BitVec.ofInt 64
  (IntKind.wrap IntKind.u64
  (IntKind.wrap IntKind.u64
  (Int.ofNat
  (BitVec.toNat
  (BitVec.ofInt 64 (0 : Int) |||
  BitVec.ofInt 64
  (IntKind.wrap IntKind.u64
  (U8.v
  (List.getD b
  (k + 1 + 1 +
  0 +
  0)
  Enc.dflt)))))) *
  (256 : Int))) |||
  BitVec.ofInt 64
  (IntKind.wrap IntKind.u64
  (U8.v
  (List.getD b
  (k + 1 + 1 + 0 +
  1)
  Enc.dflt))))))))
  (IntKind.wrap IntKind.i64
  (IntKind.wrap IntKind.u64
  (Int.ofNat
  (BitVec.toNat
  (BitVec.ofInt 64 (0 : Int) |||
  BitVec.ofInt 64
  (IntKind.wrap IntKind.u64
  (U8.v
  (List.getD b
  (k + 1 + 1 + 2 +
  0 +
  0)
  Enc.dflt))))))))
  (IntKind.wrap IntKind.i64
  (IntKind.wrap IntKind.u64
  (Int.ofNat
  (BitVec.toNat
  (BitVec.ofInt 64 (0 : Int) |||
  BitVec.ofInt 64
  (IntKind.wrap IntKind.u64
  (U8.v
  (List.getD b
  (k + 1 + 0 + 0)
  Enc.dflt))))))))
  (0 : Int) 0))))
  (br
  (IntKind.wrap IntKind.i64
  (IntKind.wrap IntKind.u64
  (Int.ofNat
  (BitVec.toNat
  (BitVec.ofInt 64 (0 : Int) |||
  BitVec.ofInt 64
  (IntKind.wrap IntKind.u64
  (U8.v
  (List.getD b
  (k + 1 + 0 + 0)
  Enc.dflt))))))) ==
  (2 : Int))
  (need (Nat.ble (List.length l + 1) 1000000)
  (need
  (true && Nat.ble (0 + List.length l) (List.length l))
  (onP N AX.normal
  (shpTkG b l c cl n
  (k + 1 + 1 + 2 + 1 +
  0)
  (m - 1 - 1 - 2 - 1 -
  0)
  (bif
  Nat.beq
  (m - 1 - 1 - 2 - 1)
  0 then
  bif
  Nat.beq (m - 1 - 1 - 2)
  0 then
  bif Nat.beq (m - 1 - 1) 0 then
  bif Nat.beq (m - 1) 0 then
  bif Nat.beq m 0 then cb else 0
  else 0
  else 0
  else 0
  else 0)
  (IntKind.wrap IntKind.i64
  (IntKind.wrap IntKind.u64
  (Int.ofNat
  (BitVec.toNat
  (BitVec.ofInt 64 (0 : Int) |||
  BitVec.ofInt 64
  (IntKind.wrap IntKind.u64
  (U8.v
  (List.getD b (k + 0 + 0)
  Enc.dflt))))))))
  (IntKind.wrap IntKind.i64
  (IntKind.wrap IntKind.u64
  (Int.ofNat
  (BitVec.toNat
  (BitVec.ofInt 64 (0 : Int) |||
  BitVec.ofInt 64
  (IntKind.wrap IntKind.u64
  (U8.v
  (List.getD b
  (k + 1 + 0 + 0)
  Enc.dflt))))))))
  (IntKind.wrap IntKind.i64
  (IntKind.wrap IntKind.u64
  (Int.ofNat
  (BitVec.toNat
  (BitVec.ofInt 64
  (IntKind.wrap IntKind.u64
  (IntKind.wrap IntKind.u64
  (Int.ofNat
  (BitVec.toNat
  (BitVec.ofInt 64 (0 : Int) |||
  BitVec.ofInt 64
  (IntKind.wrap IntKind.u64
  (U8.v
  (List.getD b
  (k + 1 + 1 +
  0 +
  0)
  Enc.dflt)))))) *
  (256 : Int))) |||
  BitVec.ofInt 64
  (IntKind.wrap IntKind.u64
  (U8.v
  (List.getD b
  (k + 1 + 1 + 0 +
  1)
  Enc.dflt))))))))
  (IntKind.wrap IntKind.i64
  (IntKind.wrap IntKind.u64
  (Int.ofNat
  (BitVec.toNat
  (BitVec.ofInt 64 (0 : Int) |||
  BitVec.ofInt 64
  (IntKind.wrap IntKind.u64
  (U8.v
  (List.getD b
  (k + 1 + 1 + 2 +
  0 +
  0)
  Enc.dflt))))))))
  (IntKind.wrap IntKind.i64
  (IntKind.wrap IntKind.u64
  (Int.ofNat
  (BitVec.toNat
  (BitVec.ofInt 64 (0 : Int) |||
  BitVec.ofInt 64
  (IntKind.wrap IntKind.u64
  (U8.v
  (List.getD b
  (k + 1 + 0 + 0)
  Enc.dflt))))))))
  (0 : Int) 0))))
  (br
  (IntKind.wrap IntKind.i64
  (IntKind.wrap IntKind.u64
  (Int.ofNat
  (BitVec.toNat
  (BitVec.ofInt 64 (0 : Int) |||
  BitVec.ofInt 64
  (IntKind.wrap IntKind.u64
  (U8.v
  (List.getD b
  (k + 1 + 0 + 0)
  Enc.dflt))))))) ==
  (3 : Int))
  (need (Nat.ble (List.length l + 1) 1000000)
  (need
  (true && Nat.ble (0 + List.length l) (List.length l))
  (onP N AX.normal
  (shpTkG b l c cl n
  (k + 1 + 1 + 2 + 1 +
  0)
  (m - 1 - 1 - 2 - 1 -
  0)
  (bif
  Nat.beq
  (m - 1 - 1 - 2 - 1)
  0 then
  bif
  Nat.beq (m - 1 - 1 - 2)
  0 then
  bif Nat.beq (m - 1 - 1) 0 then
  bif Nat.beq (m - 1) 0 then
  bif Nat.beq m 0 then cb else 0
  else 0
  else 0
  else 0
  else 0)
  (IntKind.wrap IntKind.i64
  (IntKind.wrap IntKind.u64
  (Int.ofNat
  (BitVec.toNat
  (BitVec.ofInt 64 (0 : Int) |||
  BitVec.ofInt 64
  (IntKind.wrap IntKind.u64
  (U8.v
  (List.getD b (k + 0 + 0)
  Enc.dflt))))))))
  (IntKind.wrap IntKind.i64
  (IntKind.wrap IntKind.u64
  (Int.ofNat
  (BitVec.toNat
  (BitVec.ofInt 64 (0 : Int) |||
  BitVec.ofInt 64
  (IntKind.wrap IntKind.u64
  (U8.v
  (List.getD b
  (k + 1 + 0 + 0)
  Enc.dflt))))))))
  (IntKind.wrap IntKind.i64
  (IntKind.wrap IntKind.u64
  (Int.ofNat
  (BitVec.toNat
  (BitVec.ofInt 64
  (IntKind.wrap IntKind.u64
  (IntKind.wrap IntKind.u64
  (Int.ofNat
  (BitVec.toNat
  (BitVec.ofInt 64
  (0 : Int) |||
  BitVec.ofInt 64
  (IntKind.wrap IntKind.u64
  (U8.v
  (List.getD b
  (k + 1 +
  1 +
  0 +
  0)
  Enc.dflt)))))) *
  (256 : Int))) |||
  BitVec.ofInt 64
  (IntKind.wrap IntKind.u64
  (U8.v
  (List.getD b
  (k + 1 + 1 + 0 +
  1)
  Enc.dflt))))))))
  (IntKind.wrap IntKind.i64
  (IntKind.wrap IntKind.u64
  (Int.ofNat
  (BitVec.toNat
  (BitVec.ofInt 64 (0 : Int) |||
  BitVec.ofInt 64
  (IntKind.wrap IntKind.u64
  (U8.v
  (List.getD b
  (k + 1 + 1 + 2 +
  0 +
  0)
  Enc.dflt))))))))
  (IntKind.wrap IntKind.i64
  (IntKind.wrap IntKind.u64
  (Int.ofNat
  (BitVec.toNat
  (BitVec.ofInt 64 (0 : Int) |||
  BitVec.ofInt 64
  (IntKind.wrap IntKind.u64
  (U8.v
  (List.getD b
  (k + 1 + 0 + 0)
  Enc.dflt))))))))
  (0 : Int) 0))))
  (need (Nat.ble (List.length l + 1) 1000000)
  (need
  (true && Nat.ble (0 + List.length l) (List.length l))
  (onP N AX.normal
  (shpTkG b l c cl n
  (k + 1 + 1 + 2 + 1 +
  0)
  (m - 1 - 1 - 2 - 1 -
  0)
  (bif
  Nat.beq
  (m - 1 - 1 - 2 - 1)
  0 then
  bif
  Nat.beq (m - 1 - 1 - 2)
  0 then
  bif Nat.beq (m - 1 - 1) 0 then
  bif Nat.beq (m - 1) 0 then
  bif Nat.beq m 0 then cb else 0
  else 0
  else 0
  else 0
  else 0)
  (IntKind.wrap IntKind.i64
  (IntKind.wrap IntKind.u64
  (Int.ofNat
  (BitVec.toNat
  (BitVec.ofInt 64 (0 : Int) |||
  BitVec.ofInt 64
  (IntKind.wrap IntKind.u64
  (U8.v
  (List.getD b (k + 0 + 0)
  Enc.dflt))))))))
  (IntKind.wrap IntKind.i64
  (IntKind.wrap IntKind.u64
  (Int.ofNat
  (BitVec.toNat
  (BitVec.ofInt 64 (0 : Int) |||
  BitVec.ofInt 64
  (IntKind.wrap IntKind.u64
  (U8.v
  (List.getD b
  (k + 1 + 0 + 0)
  Enc.dflt))))))))
  (IntKind.wrap IntKind.i64
  (IntKind.wrap IntKind.u64
  (Int.ofNat
  (BitVec.toNat
  (BitVec.ofInt 64
  (IntKind.wrap IntKind.u64
  (IntKind.wrap IntKind.u64
  (Int.ofNat
  (BitVec.toNat
  (BitVec.ofInt 64
  (0 : Int) |||
  BitVec.ofInt 64
  (IntKind.wrap IntKind.u64
  (U8.v
  (List.getD b
  (k + 1 +
  1 +
  0 +
  0)
  Enc.dflt)))))) *
  (256 : Int))) |||
  BitVec.ofInt 64
  (IntKind.wrap IntKind.u64
  (U8.v
  (List.getD b
  (k + 1 + 1 + 0 +
  1)
  Enc.dflt))))))))
  (IntKind.wrap IntKind.i64
  (IntKind.wrap IntKind.u64
  (Int.ofNat
  (BitVec.toNat
  (BitVec.ofInt 64 (0 : Int) |||
  BitVec.ofInt 64
  (IntKind.wrap IntKind.u64
  (U8.v
  (List.getD b
  (k + 1 + 1 + 2 +
  0 +
  0)
  Enc.dflt))))))))
  (IntKind.wrap IntKind.i64
  (IntKind.wrap IntKind.u64
  (Int.ofNat
  (BitVec.toNat
  (BitVec.ofInt 64 (0 : Int) |||
  BitVec.ofInt 64
  (IntKind.wrap IntKind.u64
  (U8.v
  (List.getD b
  (k + 1 + 0 + 0)
  Enc.dflt))))))))
  (0 : Int) 0))))))))))))
  (need (Nat.ble (List.length l + 1) 1000000)
  (need (true && Nat.ble (0 + List.length l) (List.length l))
  (onP N AX.normal
  (shpTkG b l c cl n (k + 1 + 1 + 2 + 1)
  (m - 1 - 1 - 2 - 1)
  (bif Nat.beq (m - 1 - 1 - 2) 0 then
  bif Nat.beq (m - 1 - 1) 0 then
  bif Nat.beq (m - 1) 0 then
  bif Nat.beq m 0 then cb else 0
  else 0
  else 0
  else 0)
  (IntKind.wrap IntKind.i64
  (IntKind.wrap IntKind.u64
  (Int.ofNat
  (BitVec.toNat
  (BitVec.ofInt 64 (0 : Int) |||
  BitVec.ofInt 64
  (IntKind.wrap IntKind.u64
  (U8.v
  (List.getD b (k + 0 + 0) Enc.dflt))))))))
  (IntKind.wrap IntKind.i64
  (IntKind.wrap IntKind.u64
  (Int.ofNat
  (BitVec.toNat
  (BitVec.ofInt 64 (0 : Int) |||
  BitVec.ofInt 64
  (IntKind.wrap IntKind.u64
  (U8.v
  (List.getD b (k + 1 + 0 + 0)
  Enc.dflt))))))))
  (IntKind.wrap IntKind.i64
  (IntKind.wrap IntKind.u64
  (Int.ofNat
  (BitVec.toNat
  (BitVec.ofInt 64
  (IntKind.wrap IntKind.u64
  (IntKind.wrap IntKind.u64
  (Int.ofNat
  (BitVec.toNat
  (BitVec.ofInt 64 (0 : Int) |||
  BitVec.ofInt 64
  (IntKind.wrap IntKind.u64
  (U8.v
  (List.getD b
  (k + 1 + 1 + 0 +
  0)
  Enc.dflt)))))) *
  (256 : Int))) |||
  BitVec.ofInt 64
  (IntKind.wrap IntKind.u64
  (U8.v
  (List.getD b
  (k + 1 + 1 + 0 + 1)
  Enc.dflt))))))))
  (IntKind.wrap IntKind.i64
  (IntKind.wrap IntKind.u64
  (Int.ofNat
  (BitVec.toNat
  (BitVec.ofInt 64 (0 : Int) |||
  BitVec.ofInt 64
  (IntKind.wrap IntKind.u64
  (U8.v
  (List.getD b
  (k + 1 + 1 + 2 + 0 +
  0)
  Enc.dflt))))))))
  (0 : Int) (0 : Int) 0))))))))))))))))))))))
  (onP N (AX.exit 0) (shpTx b l c cl))) := by kernel_rfl
end Go.Proofs.Ytncndnlbiijdoaa.Ev

/-! Instructions read out of bytes. -/
set_option linter.unusedVariables false
set_option linter.unusedSimpArgs false
set_option maxRecDepth 100000
namespace Go.Proofs.Ytncndnlbiijdoaa.Ev
open Go Go.Proofs Go.RowKit

def bt (b : List U8) (k : Nat) : Nat := (b.getD k Enc.dflt).v.toNat
def rdW (w : Nat) (b : List U8) (k : Nat) : Nat := match w with
  | 1 => bt b k
  | 2 => bt b k * 256 + bt b (k + 1)
  | 4 => ((bt b k * 256 + bt b (k + 1)) * 256 + bt b (k + 2)) * 256 + bt b (k + 3)
  | 8 => ((((((bt b k * 256 + bt b (k + 1)) * 256 + bt b (k + 2)) * 256 + bt b (k + 3)) * 256 + bt b (k + 4)) * 256 + bt b (k + 5)) * 256 + bt b (k + 6)) * 256 + bt b (k + 7)
  | _ => 0
/-- how many bytes an instruction has -/
def wdI (b : List U8) (k : Nat) : Nat := 5 + (if bt b k = 1 then vwid (bt b (k + 1)) else 0)
/-- a value of bytes -/
def rdV (kd : Int) (u : Nat) : Vl := if kd = 5 then ⟨kd, 0, u⟩ else if kd = 2 then ⟨kd, IntKind.wrap .i64 (IntKind.wrap .i16 (u : Int)), 0⟩ else if kd = 3 then ⟨kd, IntKind.wrap .i64 (IntKind.wrap .i32 (u : Int)), 0⟩ else ⟨kd, IntKind.wrap .i64 (u : Int), 0⟩
def rdIn (b : List U8) (k : Nat) : In := ⟨bt b k, bt b (k + 1), (rdW 2 b (k + 2) : Nat), bt b (k + 4), if bt b k = 1 then rdV (bt b (k + 1)) (rdW (vwid (bt b (k + 1))) b (k + 5)) else ⟨0, 0, 0⟩⟩
/-- so many of them -/
def parI (b : List U8) : Nat → Nat × List In
  | 0 => (2, [])
  | j + 1 => ((parI b j).1 + wdI b (parI b j).1, (parI b j).2 ++ [rdIn b (parI b j).1])
def canI (x : In) : In := ⟨x.op, x.kd, x.a, x.n, ⟨x.v.k, x.v.i, bitsN x.v.f⟩⟩
theorem bt_app (p l s : List U8) (j : Nat) (h : j < l.length) : bt (p ++ l ++ s) (p.length + j) = bt l j := by
  unfold bt
  rw [List.append_assoc, getD_app_ge _ _ _ (by omega), Nat.add_sub_cancel_left, getD_app_lt _ _ _ h]
theorem bt_byU (n : Nat) : (byU n).v.toNat = n % 256 := by show ((n % 256 : Nat) : Int).toNat = _; rw [Int.toNat_natCast]
theorem bt_w8B (x : Int) : ((w8B x).v.toNat : Int) = x % 256 := by
  show ((IntKind.wrap .u8 x).toNat : Int) = _
  rw [wr8]; omega
theorem i64w {i : Int} (h : -9223372036854775808 ≤ i) (h2 : i < 9223372036854775808) : IntKind.wrap .i64 (i % 18446744073709551616) = i := by
  unfold IntKind.wrap
  simp [IntKind.signed, IntKind.bits]
  split <;> omega
theorem wr16 (x : Int) : IntKind.wrap .i16 x = if x % 65536 < 32768 then x % 65536 else x % 65536 - 65536 := by
  unfold IntKind.wrap
  simp [IntKind.signed, IntKind.bits]
  split <;> split <;> omega
theorem wr32 (x : Int) : IntKind.wrap .i32 x = if x % 4294967296 < 2147483648 then x % 4294967296 else x % 4294967296 - 4294967296 := by
  unfold IntKind.wrap
  simp [IntKind.signed, IntKind.bits]
  split <;> split <;> omega
theorem bits_0 {f : Nat} (h : bitsN f = 0) : f = 0 := by
  unfold bitsN at h
  cases hn : nanB .f64 f with
  | true => rw [hn] at h; cases h
  | false => rw [hn] at h; exact h
theorem ar2 (N : Nat) : N / 256 % 256 * 256 + N % 256 = N % 65536 := by omega
theorem ar4 (N : Nat) : ((N / 16777216 % 256 * 256 + N / 65536 % 256) * 256 + N / 256 % 256) * 256 + N % 256 = N % 4294967296 := by omega
theorem ar8 (N : Nat) : ((((((N / 72057594037927936 % 256 * 256 + N / 281474976710656 % 256) * 256 + N / 1099511627776 % 256) * 256 + N / 4294967296 % 256) * 256 + N / 16777216 % 256) * 256 + N / 65536 % 256) * 256 + N / 256 % 256) * 256 + N % 256 = N % 18446744073709551616 := by
  have h1 := ar4 N
  have h2 := ar4 (N / 4294967296)
  rw [Nat.div_div_eq_div_mul, Nat.div_div_eq_div_mul, Nat.div_div_eq_div_mul] at h2
  simp only [Nat.reduceMul] at h2
  omega
theorem rd_1 (b t : List U8) (q N : Nat) (ht : t = num1 N) (h : ∀ j, j < 1 → bt b (q + j) = bt t j) : rdW 1 b q = N % 256 := by
  subst ht
  have h0 := h 0 (by omega)
  show bt b q = _
  rw [Nat.add_zero] at h0
  rw [h0]; exact bt_byU _
theorem rd_2 (b t : List U8) (q N : Nat) (ht : t = num2 N) (h : ∀ j, j < 2 → bt b (q + j) = bt t j) : rdW 2 b q = N % 65536 := by
  subst ht
  have h0 := h 0 (by omega)
  have h1 := h 1 (by omega)
  rw [Nat.add_zero] at h0
  have e0 : bt (num2 N) 0 = N / 256 % 256 := bt_byU _
  have e1 : bt (num2 N) 1 = N % 256 := bt_byU _
  simp only [rdW]
  rw [h0, h1, e0, e1, ar2]
theorem rd_4 (b t : List U8) (q N : Nat) (ht : t = num4 N) (h : ∀ j, j < 4 → bt b (q + j) = bt t j) : rdW 4 b q = N % 4294967296 := by
  subst ht
  have h0 := h 0 (by omega)
  have h1 := h 1 (by omega)
  have h2 := h 2 (by omega)
  have h3 := h 3 (by omega)
  rw [Nat.add_zero] at h0
  have e0 : bt (num4 N) 0 = N / 16777216 % 256 := bt_byU _
  have e1 : bt (num4 N) 1 = N / 65536 % 256 := bt_byU _
  have e2 : bt (num4 N) 2 = N / 256 % 256 := bt_byU _
  have e3 : bt (num4 N) 3 = N % 256 := bt_byU _
  simp only [rdW]
  rw [h0, h1, h2, h3, e0, e1, e2, e3, ar4]
theorem rd_8 (b t : List U8) (q N : Nat) (ht : t = num8 N) (h : ∀ j, j < 8 → bt b (q + j) = bt t j) : rdW 8 b q = N % 18446744073709551616 := by
  subst ht
  have h0 := h 0 (by omega)
  have h1 := h 1 (by omega)
  have h2 := h 2 (by omega)
  have h3 := h 3 (by omega)
  have h4 := h 4 (by omega)
  have h5 := h 5 (by omega)
  have h6 := h 6 (by omega)
  have h7 := h 7 (by omega)
  rw [Nat.add_zero] at h0
  have e0 : bt (num8 N) 0 = N / 72057594037927936 % 256 := bt_byU _
  have e1 : bt (num8 N) 1 = N / 281474976710656 % 256 := bt_byU _
  have e2 : bt (num8 N) 2 = N / 1099511627776 % 256 := bt_byU _
  have e3 : bt (num8 N) 3 = N / 4294967296 % 256 := bt_byU _
  have e4 : bt (num8 N) 4 = N / 16777216 % 256 := bt_byU _
  have e5 : bt (num8 N) 5 = N / 65536 % 256 := bt_byU _
  have e6 : bt (num8 N) 6 = N / 256 % 256 := bt_byU _
  have e7 : bt (num8 N) 7 = N % 256 := bt_byU _
  simp only [rdW]
  rw [h0, h1, h2, h3, h4, h5, h6, h7, e0, e1, e2, e3, e4, e5, e6, e7, ar8]
theorem sx16 {N : Nat} {i : Int} (u : (N : Int) = i % 18446744073709551616) (h : -32768 ≤ i) (h2 : i < 32768) : IntKind.wrap .i64 (IntKind.wrap .i16 ((N % 65536 : Nat) : Int)) = i := by
  have e : ((N % 65536 : Nat) : Int) % 65536 = i % 65536 := by omega
  have e2 : IntKind.wrap .i16 ((N % 65536 : Nat) : Int) = i := by rw [wr16, e]; split <;> omega
  rw [e2, w64 (by omega) (by omega)]
theorem sx32 {N : Nat} {i : Int} (u : (N : Int) = i % 18446744073709551616) (h : -2147483648 ≤ i) (h2 : i < 2147483648) : IntKind.wrap .i64 (IntKind.wrap .i32 ((N % 4294967296 : Nat) : Int)) = i := by
  have e : ((N % 4294967296 : Nat) : Int) % 4294967296 = i % 4294967296 := by omega
  have e2 : IntKind.wrap .i32 ((N % 4294967296 : Nat) : Int) = i := by rw [wr32, e]; split <;> omega
  rw [e2, w64 (by omega) (by omega)]
theorem vread {k i : Int} {f : Nat} (hv : valP k i f) (g1 : f < 18446744073709551616) (g2 : -9223372036854775808 ≤ i) (g3 : i < 9223372036854775808) (b : List U8) (q : Nat) (h : ∀ j, j < vwid k → bt b (q + j) = bt (vby k i f) j) : rdV k (rdW (vwid k) b q) = ⟨k, i, bitsN f⟩ := by
  have u := uN_int i
  have ul := uN_lt i
  have bl := bits_lt g1
  unfold valP at hv
  have hk : k = 1 ∨ k = 2 ∨ k = 3 ∨ k = 4 ∨ k = 5 := by omega
  rcases hk with rfl | rfl | rfl | rfl | rfl
  · have hf : bitsN f = 0 := by omega
    have hi : i = 0 ∨ i = 1 := by omega
    have e := rd_1 b (vby 1 i f) q (uN i) rfl h
    show (⟨1, IntKind.wrap .i64 ((rdW 1 b q : Nat) : Int), 0⟩ : Vl) = _
    rw [e, hf, w64 (by omega) (by omega)]
    have : ((uN i % 256 : Nat) : Int) = i := by omega
    rw [this]
  · have hf : bitsN f = 0 := by omega
    have e := rd_2 b (vby 2 i f) q (uN i) rfl h
    show (⟨2, IntKind.wrap .i64 (IntKind.wrap .i16 ((rdW 2 b q : Nat) : Int)), 0⟩ : Vl) = _
    rw [e, hf, sx16 u (by omega) (by omega)]
  · have hf : bitsN f = 0 := by omega
    have e := rd_4 b (vby 3 i f) q (uN i) rfl h
    show (⟨3, IntKind.wrap .i64 (IntKind.wrap .i32 ((rdW 4 b q : Nat) : Int)), 0⟩ : Vl) = _
    rw [e, hf, sx32 u (by omega) (by omega)]
  · have hf : bitsN f = 0 := by omega
    have e := rd_8 b (vby 4 i f) q (uN i) rfl h
    show (⟨4, IntKind.wrap .i64 ((rdW 8 b q : Nat) : Int), 0⟩ : Vl) = _
    rw [e, hf, Nat.mod_eq_of_lt ul, u, i64w g2 g3]
  · have hi : i = 0 := by omega
    have e := rd_8 b (vby 5 i f) q (bitsN f) rfl h
    show (⟨5, 0, rdW 8 b q⟩ : Vl) = _
    rw [e, Nat.mod_eq_of_lt bl, hi]
/-- what is read where an instruction's bytes lie -/
theorem rdIn_at {y : In} {p s : List U8} (hy : mayB y = true) (fy : inFit y = true) : rdIn (p ++ inBy y ++ s) p.length = canI y ∧ wdI (p ++ inBy y ++ s) p.length = (inBy y).length := by
  obtain ⟨y1, y2, y3, y4, y5, y6, y7, y8, y9, y10⟩ := may_inv hy
  obtain ⟨g1, g2, g3⟩ := (inFit_iff _).1 fy
  have hlen := (inBy_len y).1
  have u1 := uN_int y.a
  have hB : ∀ j, j < (inBy y).length → bt (p ++ inBy y ++ s) (p.length + j) = bt (inBy y) j := fun j hj => bt_app _ _ _ _ hj
  generalize p ++ inBy y ++ s = B at *
  generalize p.length = k at *
  obtain ⟨t, ht, htt⟩ : ∃ t, inBy y = w8B y.op :: w8B y.kd :: byU (uN y.a / 256) :: byU (uN y.a) :: w8B y.n :: t ∧ t = (if y.op = 1 then vby y.v.k y.v.i y.v.f else []) := ⟨_, by unfold inBy num2; simp, rfl⟩
  have hl5 : (inBy y).length = 5 + t.length := by rw [ht]; simp; omega
  have B0 : ((bt B k : Nat) : Int) = y.op := by
    have := hB 0 (by omega)
    rw [Nat.add_zero] at this
    rw [this, ht]; show ((w8B y.op).v.toNat : Int) = _; rw [bt_w8B]; omega
  have B1 : ((bt B (k + 1) : Nat) : Int) = y.kd := by
    rw [hB 1 (by omega), ht]; show ((w8B y.kd).v.toNat : Int) = _; rw [bt_w8B]; omega
  have B2 : bt B (k + 2) = uN y.a / 256 % 256 := by rw [hB 2 (by omega), ht]; exact bt_byU _
  have B3 : bt B (k + 3) = uN y.a % 256 := by rw [hB 3 (by omega), ht]; exact bt_byU _
  have B4 : ((bt B (k + 4) : Nat) : Int) = y.n := by
    rw [hB 4 (by omega), ht]; show ((w8B y.n).v.toNat : Int) = _; rw [bt_w8B]; omega
  have ha : ((rdW 2 B (k + 2) : Nat) : Int) = y.a := by
    simp only [rdW]
    rw [B2, show k + 2 + 1 = k + 3 from rfl, B3, ar2]
    omega
  by_cases ho : y.op = 1
  · have e0 : bt B k = 1 := by omega
    obtain ⟨k1, v1⟩ := y9 ho
    rw [if_pos ho] at htt
    have ek : ((bt B (k + 1) : Nat) : Int) = y.v.k := by rw [B1, k1]
    have hw : t.length = vwid y.v.k := by
      rw [htt]
      unfold vby numW vwid
      have hk : y.v.k = 1 ∨ y.v.k = 2 ∨ y.v.k = 3 ∨ y.v.k = 4 ∨ y.v.k = 5 := by unfold valP at v1; omega
      rcases hk with h | h | h | h | h <;> rw [h] <;> rfl
    have hT : ∀ j, j < vwid y.v.k → bt B (k + 5 + j) = bt (vby y.v.k y.v.i y.v.f) j := fun j hj => by
      rw [Nat.add_assoc, hB (5 + j) (by omega), ht, ← htt]
      unfold bt
      rw [Nat.add_comm 5 j]; rfl
    have hrd := vread v1 g1 g2 g3 B (k + 5) hT
    refine ⟨?_, by unfold wdI; rw [if_pos e0, ek, hl5, hw]⟩
    unfold rdIn canI
    rw [if_pos e0, ek, hrd, ha, B0, B4, ← k1]
  · have e0 : ¬ bt B k = 1 := by omega
    obtain ⟨k1, k2, k3⟩ := y10 ho
    rw [if_neg ho] at htt
    refine ⟨?_, by unfold wdI; rw [if_neg e0, hl5, htt]; rfl⟩
    unfold rdIn canI
    rw [if_neg e0, ha, B0, B1, B4, k1, k2, k3]
/-- all that is read is of its width -/
theorem bt_lt {b : List U8} (h : b.all (okA U8) = true) (k : Nat) : bt b k < 256 := by
  unfold bt
  rcases Nat.lt_or_ge k b.length with hk | hk
  · have := all_getU h hk; omega
  · have : b.getD k Enc.dflt = (Enc.dflt : U8) := by simp [List.getD, List.getElem?_eq_none hk]
    rw [this]; decide
theorem rdW_lt {b : List U8} (h : b.all (okA U8) = true) (w k : Nat) : rdW w b k < 18446744073709551616 := by
  have h0 := bt_lt h k
  have h1 := bt_lt h (k + 1)
  have h2 := bt_lt h (k + 2)
  have h3 := bt_lt h (k + 3)
  have h4 := bt_lt h (k + 4)
  have h5 := bt_lt h (k + 5)
  have h6 := bt_lt h (k + 6)
  have h7 := bt_lt h (k + 7)
  unfold rdW
  split <;> omega
theorem wr64 (x : Int) : -9223372036854775808 ≤ IntKind.wrap .i64 x ∧ IntKind.wrap .i64 x < 9223372036854775808 := by
  unfold IntKind.wrap
  simp [IntKind.signed, IntKind.bits]
  split <;> omega
theorem rdV_fit (kd : Int) {u : Nat} (h : u < 18446744073709551616) : (rdV kd u).f < 18446744073709551616 ∧ -9223372036854775808 ≤ (rdV kd u).i ∧ (rdV kd u).i < 9223372036854775808 := by
  unfold rdV
  split
  · exact ⟨h, by show (-9223372036854775808 : Int) ≤ 0; omega, by show (0 : Int) < 9223372036854775808; omega⟩
  · split
    · exact ⟨by show 0 < 18446744073709551616; omega, (wr64 _).1, (wr64 _).2⟩
    · split
      · exact ⟨by show 0 < 18446744073709551616; omega, (wr64 _).1, (wr64 _).2⟩
      · exact ⟨by show 0 < 18446744073709551616; omega, (wr64 _).1, (wr64 _).2⟩
theorem rdIn_fit {b : List U8} (h : b.all (okA U8) = true) (k : Nat) : inFit (rdIn b k) = true := by
  rw [inFit_iff]
  unfold rdIn
  by_cases h1 : bt b k = 1
  · rw [if_pos h1]
    exact rdV_fit _ (rdW_lt h _ _)
  · rw [if_neg h1]; exact ⟨by show 0 < 18446744073709551616; omega, by show (-9223372036854775808 : Int) ≤ 0; omega, by show (0 : Int) < 9223372036854775808; omega⟩
/-- bytes that are of instructions: what is read of them -/
theorem par_put {l : List In} (h1 : l.all mayB = true) (h2 : l.all inFit = true) : ∀ j, j ≤ l.length → parI (putN l l.length) j = (2 + ((l.take j).flatMap inBy).length, (l.take j).map canI) := by
  intro j
  induction j with
  | zero => intro _; simp [parI]
  | succ j ih =>
    intro hj
    have hjl : j < l.length := by omega
    have hm : mayB (l.getD j Enc.dflt) = true := by rw [List.all_eq_true] at h1; exact h1 _ (by simp [List.getD, hjl])
    have hf : inFit (l.getD j Enc.dflt) = true := by rw [List.all_eq_true] at h2; exact h2 _ (by simp [List.getD, hjl])
    have hs := take_succ hjl (Enc.dflt : In)
    have hd : l = l.take j ++ (l.getD j Enc.dflt :: l.drop (j + 1)) := by
      have := List.take_append_drop (j + 1) l
      rw [hs, List.append_assoc] at this
      exact this.symm
    have hp : putN l l.length = (num2 l.length ++ (l.take j).flatMap inBy) ++ inBy (l.getD j Enc.dflt) ++ (l.drop (j + 1)).flatMap inBy := by
      rw [put_flat]
      conv => lhs; rw [hd]
      simp only [List.flatMap_append, List.flatMap_cons, List.append_assoc]
      congr 2
      rw [← hd]
    have hk : (num2 l.length ++ (l.take j).flatMap inBy).length = 2 + ((l.take j).flatMap inBy).length := by simp [num2]; omega
    obtain ⟨e1, e2⟩ := rdIn_at (y := l.getD j Enc.dflt) (p := num2 l.length ++ (l.take j).flatMap inBy) (s := (l.drop (j + 1)).flatMap inBy) hm hf
    rw [← hp, hk] at e1 e2
    simp only [parI, ih (by omega), e1, e2, hs, List.flatMap_append, List.map_append]
    simp
    omega
end Go.Proofs.Ytncndnlbiijdoaa.Ev

/-! inst.Take: one round. -/
set_option linter.unusedVariables false
set_option linter.unusedSimpArgs false
set_option maxRecDepth 100000
namespace Go.Proofs.Ytncndnlbiijdoaa.Ev
open Go Go.Proofs Go.RowKit

theorem bvN {n : Nat} (h : n < 18446744073709551616) : (BitVec.ofInt 64 (n : Int)).toNat = n := by
  rw [BitVec.ofInt_natCast]; simp; omega
theorem or_z {x : Nat} (h : x < 18446744073709551616) : IntKind.wrap .u64 (Int.ofNat (BitVec.toNat (BitVec.ofInt 64 (0 : Int) ||| BitVec.ofInt 64 (x : Int)))) = (x : Int) := by
  have : BitVec.ofInt 64 (0 : Int) = 0#64 := by decide
  rw [this, BitVec.zero_or, bvN h]
  exact wrap64u h
theorem or_s {v x : Nat} (hv : v < 72057594037927936) (hx : x < 256) : IntKind.wrap .u64 (Int.ofNat (BitVec.toNat (BitVec.ofInt 64 (IntKind.wrap .u64 ((v : Int) * 256)) ||| BitVec.ofInt 64 (x : Int)))) = ((v * 256 + x : Nat) : Int) := by
  have e1 : IntKind.wrap .u64 ((v : Int) * 256) = ((v * 256 : Nat) : Int) := by
    have : ((v : Int) * 256) = ((v * 256 : Nat) : Int) := by simp
    rw [this]; exact wrap64u (by omega)
  rw [e1, BitVec.toNat_or, bvN (by omega), bvN (by omega)]
  have h := Nat.two_pow_add_eq_or_of_lt (i := 8) (b := x) hx v
  have e : v * 256 ||| x = v * 256 + x := by rw [show v * 256 = 2 ^ 8 * v by omega]; exact h.symm
  rw [e]; exact wrap64u (by omega)
theorem bt_u64 {b : List U8} (h : b.all (okA U8) = true) (j : Nat) : IntKind.wrap .u64 (U8.v (List.getD b j Enc.dflt)) = ((bt b j : Nat) : Int) := by
  have h0 : 0 ≤ (b.getD j Enc.dflt).v ∧ (b.getD j Enc.dflt).v < 256 := by
    rcases Nat.lt_or_ge j b.length with hj | hj
    · exact all_getU h hj
    · have : b.getD j Enc.dflt = (Enc.dflt : U8) := by simp [List.getD, List.getElem?_eq_none hj]
      rw [this]; exact ⟨by show (0 : Int) ≤ 0; omega, by show (0 : Int) < 256; omega⟩
  unfold bt
  obtain ⟨n, hn⟩ := Int.eq_ofNat_of_zero_le h0.1
  rw [hn, Int.toNat_natCast]
  exact wrap64u (by omega)
theorem wd_cases (b : List U8) (k : Nat) : (bt b k ≠ 1 ∧ wdI b k = 5) ∨ (bt b k = 1 ∧ bt b (k + 1) = 1 ∧ wdI b k = 6) ∨ (bt b k = 1 ∧ bt b (k + 1) = 2 ∧ wdI b k = 7) ∨ (bt b k = 1 ∧ bt b (k + 1) = 3 ∧ wdI b k = 9) ∨ (bt b k = 1 ∧ (bt b (k + 1) = 4 ∨ bt b (k + 1) = 5) ∧ wdI b k = 13) ∨ (bt b k = 1 ∧ (bt b (k + 1) = 0 ∨ 6 ≤ bt b (k + 1)) ∧ wdI b k = 5) := by
  unfold wdI vwid
  by_cases h : bt b k = 1
  · rw [if_pos h]
    repeat' split
    all_goals omega
  · rw [if_neg h]; omega
section
variable {b : List U8} {k : Nat}
theorem rdIn_0 (h : bt b k ≠ 1) : rdIn b k = ⟨bt b k, bt b (k + 1), ((bt b (k + 2) * 256 + bt b (k + 3) : Nat) : Int), bt b (k + 4), ⟨0, 0, 0⟩⟩ := by
  unfold rdIn; rw [if_neg h]; rfl
theorem rdIn_c (h : bt b k = 1) {v : Vl} (hv : rdV (bt b (k + 1)) (rdW (vwid (bt b (k + 1))) b (k + 5)) = v) : rdIn b k = ⟨bt b k, bt b (k + 1), ((bt b (k + 2) * 256 + bt b (k + 3) : Nat) : Int), bt b (k + 4), v⟩ := by
  unfold rdIn; rw [if_pos h, hv]; rfl
theorem rdV_1 (h : bt b (k + 1) = 1) : rdV (bt b (k + 1)) (rdW (vwid (bt b (k + 1))) b (k + 5)) = ⟨bt b (k + 1), IntKind.wrap .i64 ((bt b (k + 5) : Nat) : Int), 0⟩ := by rw [h]; rfl
theorem rdV_2 (h : bt b (k + 1) = 2) : rdV (bt b (k + 1)) (rdW (vwid (bt b (k + 1))) b (k + 5)) = ⟨bt b (k + 1), IntKind.wrap .i64 (IntKind.wrap .i16 ((bt b (k + 5) * 256 + bt b (k + 6) : Nat) : Int)), 0⟩ := by rw [h]; rfl
theorem rdV_3 (h : bt b (k + 1) = 3) : rdV (bt b (k + 1)) (rdW (vwid (bt b (k + 1))) b (k + 5)) = ⟨bt b (k + 1), IntKind.wrap .i64 (IntKind.wrap .i32 ((((bt b (k + 5) * 256 + bt b (k + 6)) * 256 + bt b (k + 7)) * 256 + bt b (k + 8) : Nat) : Int)), 0⟩ := by rw [h]; rfl
theorem rdV_4 (h : bt b (k + 1) = 4) : rdV (bt b (k + 1)) (rdW (vwid (bt b (k + 1))) b (k + 5)) = ⟨bt b (k + 1), IntKind.wrap .i64 ((((((((bt b (k + 5) * 256 + bt b (k + 6)) * 256 + bt b (k + 7)) * 256 + bt b (k + 8)) * 256 + bt b (k + 9)) * 256 + bt b (k + 10)) * 256 + bt b (k + 11)) * 256 + bt b (k + 12) : Nat) : Int), 0⟩ := by rw [h]; rfl
theorem rdV_5 (h : bt b (k + 1) = 5) : rdV (bt b (k + 1)) (rdW (vwid (bt b (k + 1))) b (k + 5)) = ⟨bt b (k + 1), 0, ((((((bt b (k + 5) * 256 + bt b (k + 6)) * 256 + bt b (k + 7)) * 256 + bt b (k + 8)) * 256 + bt b (k + 9)) * 256 + bt b (k + 10)) * 256 + bt b (k + 11)) * 256 + bt b (k + 12)⟩ := by rw [h]; rfl
theorem rdV_6 (h : bt b (k + 1) = 0 ∨ 6 ≤ bt b (k + 1)) : rdV (bt b (k + 1)) (rdW (vwid (bt b (k + 1))) b (k + 5)) = ⟨bt b (k + 1), 0, 0⟩ := by
  have hw : vwid (bt b (k + 1)) = 0 := by
    unfold vwid
    repeat' split
    all_goals omega
  rw [hw]
  unfold rdV
  rw [if_neg (by omega), if_neg (by omega), if_neg (by omega)]; rfl
end
set_option maxHeartbeats 40000000 in
theorem tk_main {b : List U8} {l : List In} {c cl k m cb : Nat} {n : Int} {β : Bs} {N : Kt} {ex : Nat → Kt → Prop} (hb : b.all (okA U8) = true) (hkm : k + m = b.length) (hl : l.length ≤ 70000) (hn : 0 < n)
    (badL : ∀ (x0 x1 x2 x3 x4 x5 : Int) (x6 : Nat), inFit ⟨x0, x1, x2, x3, ⟨x4, x5, x6⟩⟩ = true → m < wdI b k → onP N .normal (shpTkB b l c cl n x0 x1 x2 x3 x4 x5 x6))
    (goodL : ∀ (k' m' cb' : Nat) (x0 x1 x2 x3 x4 x5 : Int) (x6 : Nat), (⟨x0, x1, x2, x3, ⟨x4, x5, x6⟩⟩ : In) = rdIn b k → k' = k + wdI b k → m' = m - wdI b k → wdI b k ≤ m → onP N .normal (shpTkG b l c cl n k' m' cb' x0 x1 x2 x3 x4 x5 x6)) :
    roundJ Try.prog toldB9 100 20 β (fun _ => 0) (cnOf 1 fun _ => slTk) ex 10 0 1 lvTk (FTk b l c cl n) (STk b k m cb l) N := by
  rw [vc_tk_r]
  have hbt := bt_lt hb
  have hu := bt_u64 hb
  have hW := wd_cases b k
  have h1 := hbt k
  have h2 := hbt (k + 1)
  have h3 := hbt (k + 2)
  have h4 := hbt (k + 3)
  have h5 := hbt (k + 4)
  have h6 := hbt (k + 5)
  have h7 := hbt (k + 6)
  have h8 := hbt (k + 7)
  have h9 := hbt (k + 8)
  have h10 := hbt (k + 9)
  have h11 := hbt (k + 10)
  have h12 := hbt (k + 11)
  have h13 := hbt (k + 12)
  have z : ∀ j, IntKind.wrap .u64 (Int.ofNat (BitVec.toNat (BitVec.ofInt 64 (0 : Int) ||| BitVec.ofInt 64 ((bt b j : Nat) : Int)))) = ((bt b j : Nat) : Int) := fun j => or_z (by have := hbt j; omega)
  have sa := or_s (v := bt b (k + 2)) (x := bt b (k + 3)) (by omega) h4
  have s1 := or_s (v := bt b (k + 5)) (x := bt b (k + 6)) (by omega) h7
  have s2 := or_s (v := bt b (k + 5) * 256 + bt b (k + 6)) (x := bt b (k + 7)) (by omega) h8
  have s3 := or_s (v := (bt b (k + 5) * 256 + bt b (k + 6)) * 256 + bt b (k + 7)) (x := bt b (k + 8)) (by omega) h9
  have s4 := or_s (v := ((bt b (k + 5) * 256 + bt b (k + 6)) * 256 + bt b (k + 7)) * 256 + bt b (k + 8)) (x := bt b (k + 9)) (by omega) h10
  have s5 := or_s (v := (((bt b (k + 5) * 256 + bt b (k + 6)) * 256 + bt b (k + 7)) * 256 + bt b (k + 8)) * 256 + bt b (k + 9)) (x := bt b (k + 10)) (by omega) h11
  have s6 := or_s (v := ((((bt b (k + 5) * 256 + bt b (k + 6)) * 256 + bt b (k + 7)) * 256 + bt b (k + 8)) * 256 + bt b (k + 9)) * 256 + bt b (k + 10)) (x := bt b (k + 11)) (by omega) h12
  have s7 := or_s (v := (((((bt b (k + 5) * 256 + bt b (k + 6)) * 256 + bt b (k + 7)) * 256 + bt b (k + 8)) * 256 + bt b (k + 9)) * 256 + bt b (k + 10)) * 256 + bt b (k + 11)) (x := bt b (k + 12)) (by omega) h13
  have i1 : ∀ j, IntKind.wrap .i64 ((bt b j : Nat) : Int) = ((bt b j : Nat) : Int) := fun j => w64 (by omega) (by have := hbt j; omega)
  have i2 : IntKind.wrap .i64 ((bt b (k + 2) * 256 + bt b (k + 3) : Nat) : Int) = ((bt b (k + 2) * 256 + bt b (k + 3) : Nat) : Int) := w64 (by omega) (by omega)
  have cn : decide (n > 0) = true := decide_eq_true hn
  simp only [cn, br_t, Nat.add_assoc, Nat.reduceAdd, Nat.add_zero, Nat.sub_sub, hu, z, sa, s1, s2, s3, s4, s5, s6, s7, i1, i2, Int.toNat_natCast, Nat.zero_add, bleS, Bool.true_and, need_t]
  clear hu z sa s1 s2 s3 s4 s5 s6 s7 hbt cn
  repeat' (first | (with_reducible refine br_of (fun _ => ?_) (fun _ => ?_)) | (with_reducible refine need_of ?_ ?_))
  all_goals first
    | (simp only [Nat.ble_eq, Nat.blt_eq, Bool.and_eq_true, decide_eq_true_eq, decide_eq_false_iff_not, beq_iff_eq, beq_eq_false_iff_ne, ne_eq, Int.ofNat_eq_natCast] at *; omega)
    | (simp only [decide_eq_true_eq, decide_eq_false_iff_not, beq_iff_eq, beq_eq_false_iff_ne, ne_eq, Int.ofNat_eq_natCast] at *; first
      | (exfalso; omega)
      | (refine badL _ _ _ _ _ _ _ rfl ?_; omega)
      | (refine goodL _ _ _ _ _ _ _ _ _ _ ?_ ?_ ?_ ?_ <;> first
        | omega
        | (rw [rdIn_0 (by omega)])
        | (rw [rdIn_c (by omega) (rdV_1 (by omega)), i1])
        | (rw [rdIn_c (by omega) (rdV_2 (by omega))])
        | (rw [rdIn_c (by omega) (rdV_3 (by omega))])
        | (rw [rdIn_c (by omega) (rdV_4 (by omega))])
        | (rw [rdIn_c (by omega) (rdV_5 (by omega))])
        | (rw [rdIn_c (by omega) (rdV_6 (by omega))])))
noncomputable def toldT : Told := toldB9.tree 27 (ok2 U8 U8 fun _ _ _ _ => true) (ans2 U8 U8 fun l _ m _ => bAns (sameU l m))
theorem toldT_ok : ToldS Try.prog toldT := Told.tree_ok toldB9_ok equal_told
end Go.Proofs.Ytncndnlbiijdoaa.Ev

/-! What has to hold: printed by the evaluator. -/
set_option linter.unusedVariables false
set_option maxRecDepth 1000000
namespace Go.Proofs.Ytncndnlbiijdoaa.Ev
open Go Go.Proofs
/-- are these the instructions that bytes are? -/
def isPar (b : List U8) (l : List In) : Prop := l.length ≤ 400 ∧ l.all mayB = true ∧ l.all inFit = true ∧ putN l l.length = b ∧ l.map canI = l
def GoodTk (b : List U8) (l : List In) : Prop := l.all inFit = true ∧ l.length ≤ 65535 ∧ (ipG l = true → putN l l.length = b → isPar b l) ∧ (∀ l0, isPar b l0 → l = l0)
def exTk (b : List U8) (c : Nat) : Nat → Kt → Prop := fun x K => ∀ l, GoodTk b l → K (.exit x) (FTx b l c 1) (STx b l)
theorem vc_take (b : List U8) (c : Nat) (β : Bs) (K : AE → List (Option AObj) → Prop) : lawE Try.prog toldT 100 20 β (fun _ => 0) (cnOf 1 fun _ => slTk) (exTk b c) 10 [.slice (some ⟨0, 0, some 0⟩) b.length c] (mkS [some (rowO .look b)]) (outK K) =
(  br (decide ((2 : Int) > Int.ofNat (List.length b)))
  (LoopJ Try.prog β (exTk b c) 0 (loopOf Try.prog 10 0)
  (mkF 61
  [(0, Value.slice (some (Addr.mk 0 0 (some 0))) (List.length b) c),
  (4, Value.pointer (some (Addr.mk 1 0 none))),
  (5, Value.slice none 0 0), (6, Value.int IntKind.u64 (0 : Int))])
  (mkS
  [some (AObj.row Rk.look 1 0 (List.length b) (encL b)),
  some (AObj.cells [Value.slice none 0 0, Value.bool true] true 0)]) ∧
  ∀ (l : List In),
  GoodTk b l →
  need (true && Nat.ble (0 + List.length l) (List.length l))
  (need
  (ok1 In (fun l x => List.all l (okA In))
  [Ta.cell (Td.fr 7 (List.length l) 1 fun i => encL l (0 + i))])
  (br
  ((Nat.beq
  (List.length
  (ipL (listT In (Td.fr 7 (List.length l) 1 fun i => encL l (0 + i)))))
  0 &&
  Nat.beq (ipC (listT In (Td.fr 7 (List.length l) 1 fun i => encL l (0 + i))))
  1) ==
  true)
  (K (AE.returned (Value.tuple (Array.mk [Value.slice none 0 0, Value.bool false])))
  [some (AObj.row Rk.look 1 0 (List.length b) (encL b)),
  some (AObj.row Rk.mine 7 0 (List.length l) (encL l)), none,
  some
  (AObj.row Rk.mine 1 0
  (List.length
  (ipL (listT In (Td.fr 7 (List.length l) 1 fun i => encL l (0 + i)))))
  (encL
  (ipL (listT In (Td.fr 7 (List.length l) 1 fun i => encL l (0 + i))))))])
  (need
  (true &&
  Nat.ble
  (0 +
  List.length
  (ipL (listT In (Td.fr 7 (List.length l) 1 fun i => encL l (0 + i)))))
  (List.length
  (ipL (listT In (Td.fr 7 (List.length l) 1 fun i => encL l (0 + i))))))
  (need (true && Nat.ble (0 + List.length b) (List.length b))
  (need
  (ok2 U8 U8 (fun x x_1 x_2 x_3 => true)
  [Ta.cell
  (Td.fr 1
  (List.length
  (ipL
  (listT In (Td.fr 7 (List.length l) 1 fun i => encL l (0 + i)))))
  (ipC (listT In (Td.fr 7 (List.length l) 1 fun i => encL l (0 + i))))
  fun i =>
  encL
  (ipL
  (listT In (Td.fr 7 (List.length l) 1 fun i => encL l (0 + i))))
  (0 + i)),
  Ta.cell (Td.fr 1 (List.length b) c fun i => encL b (0 + i))])
  (br
  (!sameU
  (listT U8
  (Td.fr 1
  (List.length
  (ipL
  (listT In
  (Td.fr 7 (List.length l) 1 fun i => encL l (0 + i)))))
  (ipC
  (listT In (Td.fr 7 (List.length l) 1 fun i => encL l (0 + i))))
  fun i =>
  encL
  (ipL
  (listT In
  (Td.fr 7 (List.length l) 1 fun i => encL l (0 + i))))
  (0 + i)))
  (listT U8 (Td.fr 1 (List.length b) c fun i => encL b (0 + i))))
  (K (AE.returned (Value.tuple (Array.mk [Value.slice none 0 0, Value.bool false])))
  [some (AObj.row Rk.look 1 0 (List.length b) (encL b)),
  some (AObj.row Rk.mine 7 0 (List.length l) (encL l)), none,
  some
  (AObj.row Rk.mine 1 0
  (List.length
  (ipL
  (listT In
  (Td.fr 7 (List.length l) 1 fun i => encL l (0 + i)))))
  (encL
  (ipL
  (listT In
  (Td.fr 7 (List.length l) 1 fun i => encL l (0 + i)))))),
  none])
  (K
  (AE.returned
  (Value.tuple
  (Array.mk
  [Value.slice (some (Addr.mk 1 0 (some 0))) (List.length l)
  1,
  Value.bool true])))
  [some (AObj.row Rk.look 1 0 (List.length b) (encL b)),
  some (AObj.row Rk.mine 7 0 (List.length l) (encL l)), none,
  some
  (AObj.row Rk.mine 1 0
  (List.length
  (ipL
  (listT In
  (Td.fr 7 (List.length l) 1 fun i => encL l (0 + i)))))
  (encL
  (ipL
  (listT In
  (Td.fr 7 (List.length l) 1 fun i => encL l (0 + i)))))),
  none]))))))))
  (need (Nat.ble 2 (List.length b))
  (need (true && Nat.blt 0 (List.length b))
  (need (true && Nat.blt 1 (List.length b))
  (need (Nat.ble 2 (List.length b))
  (LoopJ Try.prog β (exTk b c) 0 (loopOf Try.prog 10 0)
  (mkF 61
  [(0, Value.slice (some (Addr.mk 0 0 (some 0))) (List.length b) c),
  (4, Value.pointer (some (Addr.mk 1 0 none))),
  (5, Value.slice none 0 0),
  (6,
  Value.int IntKind.u64
  (IntKind.wrap IntKind.u64
  (Int.ofNat
  (BitVec.toNat
  (BitVec.ofInt 64
  (IntKind.wrap IntKind.u64
  (IntKind.wrap IntKind.u64
  (Int.ofNat
  (BitVec.toNat
  (BitVec.ofInt 64 (0 : Int) |||
  BitVec.ofInt 64
  (IntKind.wrap IntKind.u64 (U8.v (List.getD b 0 Enc.dflt)))))) *
  (256 : Int))) |||
  BitVec.ofInt 64
  (IntKind.wrap IntKind.u64 (U8.v (List.getD b 1 Enc.dflt))))))))])
  (mkS
  [some (AObj.row Rk.look 1 0 (List.length b) (encL b)),
  some
  (AObj.cells
  [Value.slice (some (Addr.mk 0 0 (some 2))) (List.length b - 2)
  (bif Nat.beq (List.length b) 0 then c else 0),
  Value.bool false]
  true 0)]) ∧
  ∀ (l : List In),
  GoodTk b l →
  need (true && Nat.ble (0 + List.length l) (List.length l))
  (need
  (ok1 In (fun l x => List.all l (okA In))
  [Ta.cell (Td.fr 7 (List.length l) 1 fun i => encL l (0 + i))])
  (br
  ((Nat.beq
  (List.length
  (ipL
  (listT In (Td.fr 7 (List.length l) 1 fun i => encL l (0 + i)))))
  0 &&
  Nat.beq
  (ipC (listT In (Td.fr 7 (List.length l) 1 fun i => encL l (0 + i))))
  1) ==
  true)
  (K (AE.returned (Value.tuple (Array.mk [Value.slice none 0 0, Value.bool false])))
  [some (AObj.row Rk.look 1 0 (List.length b) (encL b)),
  some (AObj.row Rk.mine 7 0 (List.length l) (encL l)), none,
  some
  (AObj.row Rk.mine 1 0
  (List.length
  (ipL
  (listT In
  (Td.fr 7 (List.length l) 1 fun i => encL l (0 + i)))))
  (encL
  (ipL
  (listT In
  (Td.fr 7 (List.length l) 1 fun i => encL l (0 + i))))))])
  (need
  (true &&
  Nat.ble
  (0 +
  List.length
  (ipL
  (listT In
  (Td.fr 7 (List.length l) 1 fun i => encL l (0 + i)))))
  (List.length
  (ipL
  (listT In
  (Td.fr 7 (List.length l) 1 fun i => encL l (0 + i))))))
  (need (true && Nat.ble (0 + List.length b) (List.length b))
  (need
  (ok2 U8 U8 (fun x x_1 x_2 x_3 => true)
  [Ta.cell
  (Td.fr 1
  (List.length
  (ipL
  (listT In
  (Td.fr 7 (List.length l) 1 fun i => encL l (0 + i)))))
  (ipC
  (listT In
  (Td.fr 7 (List.length l) 1 fun i => encL l (0 + i))))
  fun i =>
  encL
  (ipL
  (listT In
  (Td.fr 7 (List.length l) 1 fun i => encL l (0 + i))))
  (0 + i)),
  Ta.cell (Td.fr 1 (List.length b) c fun i => encL b (0 + i))])
  (br
  (!sameU
  (listT U8
  (Td.fr 1
  (List.length
  (ipL
  (listT In
  (Td.fr 7 (List.length l) 1 fun i =>
  encL l (0 + i)))))
  (ipC
  (listT In
  (Td.fr 7 (List.length l) 1 fun i => encL l (0 + i))))
  fun i =>
  encL
  (ipL
  (listT In
  (Td.fr 7 (List.length l) 1 fun i =>
  encL l (0 + i))))
  (0 + i)))
  (listT U8 (Td.fr 1 (List.length b) c fun i => encL b (0 + i))))
  (K
  (AE.returned
  (Value.tuple (Array.mk [Value.slice none 0 0, Value.bool false])))
  [some (AObj.row Rk.look 1 0 (List.length b) (encL b)),
  some (AObj.row Rk.mine 7 0 (List.length l) (encL l)), none,
  some
  (AObj.row Rk.mine 1 0
  (List.length
  (ipL
  (listT In
  (Td.fr 7 (List.length l) 1 fun i =>
  encL l (0 + i)))))
  (encL
  (ipL
  (listT In
  (Td.fr 7 (List.length l) 1 fun i =>
  encL l (0 + i)))))),
  none])
  (K
  (AE.returned
  (Value.tuple
  (Array.mk
  [Value.slice (some (Addr.mk 1 0 (some 0))) (List.length l)
  1,
  Value.bool true])))
  [some (AObj.row Rk.look 1 0 (List.length b) (encL b)),
  some (AObj.row Rk.mine 7 0 (List.length l) (encL l)), none,
  some
  (AObj.row Rk.mine 1 0
  (List.length
  (ipL
  (listT In
  (Td.fr 7 (List.length l) 1 fun i =>
  encL l (0 + i)))))
  (encL
  (ipL
  (listT In
  (Td.fr 7 (List.length l) 1 fun i =>
  encL l (0 + i)))))),
  none]))))))))))))) := by kernel_rfl
end Go.Proofs.Ytncndnlbiijdoaa.Ev

/-! inst.Take: told to the evaluator. -/
set_option linter.unusedVariables false
set_option linter.unusedSimpArgs false
set_option maxRecDepth 100000
namespace Go.Proofs.Ytncndnlbiijdoaa.Ev
open Go Go.Proofs Go.RowKit

theorem parI_len (b : List U8) (j : Nat) : (parI b j).2.length = j := by
  induction j with
  | zero => rfl
  | succ j ih => simp only [parI, List.length_append, ih]; rfl
theorem parI_fit {b : List U8} (h : b.all (okA U8) = true) (j : Nat) : (parI b j).2.all inFit = true := by
  induction j with
  | zero => rfl
  | succ j ih => simp only [parI, List.all_append, ih]; simp [rdIn_fit h]
theorem flat_take (l : List In) (j : Nat) : ((l.take j).flatMap inBy).length ≤ (l.flatMap inBy).length := by
  have : l.flatMap inBy = (l.take j).flatMap inBy ++ (l.drop j).flatMap inBy := by rw [← List.flatMap_append, List.take_append_drop]
  rw [this, List.length_append]; omega
theorem par_wd {l : List In} {b : List U8} (h1 : l.all mayB = true) (h2 : l.all inFit = true) (hb : putN l l.length = b) {j : Nat} (hj : j < l.length) : (parI b j).1 + wdI b (parI b j).1 ≤ b.length := by
  subst hb
  have := congrArg Prod.fst (par_put h1 h2 (j + 1) (by omega))
  have hf := flat_take l (j + 1)
  have hl : (putN l l.length).length = 2 + (l.flatMap inBy).length := by rw [put_flat]; simp [num2]; omega
  show (parI (putN l l.length) (j + 1)).1 ≤ _
  rw [this, hl]
  show 2 + ((l.take (j + 1)).flatMap inBy).length ≤ _
  omega
theorem par_hd {l : List In} {b : List U8} (hl : l.length ≤ 400) (hb : putN l l.length = b) : bt b 0 * 256 + bt b 1 = l.length := by
  subst hb
  rw [put_flat]
  have e0 : bt (num2 l.length ++ l.flatMap inBy) 0 = l.length / 256 % 256 := bt_byU _
  have e1 : bt (num2 l.length ++ l.flatMap inBy) 1 = l.length % 256 := bt_byU _
  rw [e0, e1]; omega
theorem par_all {l : List In} {b : List U8} (h1 : l.all mayB = true) (h2 : l.all inFit = true) (hb : putN l l.length = b) : (parI b l.length).2 = l.map canI := by
  subst hb
  have := congrArg Prod.snd (par_put h1 h2 l.length (Nat.le_refl _))
  rw [List.take_length] at this
  exact this
theorem ipG_inv {l : List In} (h : ipG l = true) : l.length ≤ 400 ∧ l.all mayB = true := by
  unfold ipG at h
  rw [Bool.and_eq_true] at h
  exact ⟨of_decide_eq_true h.1, h.2⟩
theorem tk_short {b : List U8} (h : b.length < 2) : GoodTk b [] := by
  refine ⟨rfl, by simp, fun _ hp => ?_, fun l0 h0 => ?_⟩
  · have := congrArg List.length hp
    have h2 := (putN_len [] ([] : List In).length).1
    omega
  · obtain ⟨_, _, _, hp, _⟩ := h0
    have := congrArg List.length hp
    have h2 := (putN_len l0 l0.length).1
    omega
theorem tk_good {b : List U8} (hb : b.all (okA U8) = true) {n0 : Nat} (hn : n0 = bt b 0 * 256 + bt b 1) : GoodTk b (parI b n0).2 := by
  have h0 := bt_lt hb 0
  have h1 := bt_lt hb 1
  have hl := parI_len b n0
  refine ⟨parI_fit hb _, by omega, fun hg hp => ?_, fun l0 hp => ?_⟩
  · obtain ⟨g1, g2⟩ := ipG_inv hg
    have hf := parI_fit hb n0
    generalize hL : (parI b n0).2 = L at *
    have e := par_all g2 hf hp
    rw [hl, hL] at e
    exact ⟨g1, g2, hf, hp, e.symm⟩
  · obtain ⟨p1, p2, p3, p4, p5⟩ := hp
    have e := par_hd p1 p4
    have e2 := par_all p2 p3 p4
    rw [← e, ← hn, p5] at e2
    exact e2
theorem tk_bad {b : List U8} (hb : b.all (okA U8) = true) {n0 j : Nat} {x : In} (hn : n0 = bt b 0 * 256 + bt b 1) (hj : j < n0) (hx : inFit x = true) (hk : (parI b j).1 ≤ b.length) (hm : b.length - (parI b j).1 < wdI b (parI b j).1) : GoodTk b ((parI b j).2 ++ [x]) := by
  have h0 := bt_lt hb 0
  have h1 := bt_lt hb 1
  have hl := parI_len b j
  have hL : ((parI b j).2 ++ [x]).length = j + 1 := by simp [hl]
  have hf : ((parI b j).2 ++ [x]).all inFit = true := by rw [List.all_append, parI_fit hb]; simp [hx]
  refine ⟨hf, by omega, fun hg hp => ?_, fun l0 hp => ?_⟩
  · obtain ⟨g1, g2⟩ := ipG_inv hg
    have := par_wd g2 hf hp (j := j) (by omega)
    omega
  · obtain ⟨p1, p2, p3, p4, p5⟩ := hp
    have e := par_hd p1 p4
    have := par_wd p2 p3 p4 (j := j) (by omega)
    omega
structure TkP where
  j : Nat
  bad : Bool
  x : In
  cb : Nat
def lTk (b : List U8) (p : TkP) : List In := cond p.bad ((parI b p.j).2 ++ [p.x]) (parI b p.j).2
def nTk (n0 : Nat) (p : TkP) : Nat := cond p.bad (n0 - p.j - 1) (n0 - p.j)
def sTk (b : List U8) (p : TkP) : ASt := cond p.bad (STb b (lTk b p)) (STk b (parI b p.j).1 (b.length - (parI b p.j).1) p.cb (lTk b p))
def ITk (b : List U8) (n0 : Nat) (p : TkP) : Prop := p.j ≤ n0 ∧ (parI b p.j).1 ≤ b.length ∧ (p.bad = true → p.j < n0 ∧ inFit p.x = true ∧ b.length - (parI b p.j).1 < wdI b (parI b p.j).1)
def mTk (n0 : Nat) (p : TkP) : Nat := cond p.bad 0 (n0 - p.j + 1)
theorem tk_row {b : List U8} {l : List In} {x : In} {c : Nat} {n n' : Int} {cs : List Value} {β : Bs} (hn : IntKind.wrap .u64 (n - 1) = n') {S : ASt} (hS : S = mkS [some (rowO .look b), some (.cells cs true 0), some (rowO .mine (l ++ [x]))]) :
    Seen β (FTr b l c 1 n) (mkS [some (rowO .look b), some (.cells cs true 0), some (.row .mine 7 0 (l.length + 1) fun j k => mrgT (Nat.blt j l.length) (encL l (0 + j) k) (selT 7 1 [.sc (.int .i64 x.op), .sc (.int .i64 x.kd), .sc (.int .i64 x.a), .sc (.int .i64 x.n), .sc (.int .i64 x.v.k), .sc (.int .i64 x.v.i), .sc (.float .f64 x.v.f)] (j - l.length) k))]) (FTk b (l ++ [x]) c 1 n') S := by
  subst hS
  have hF : FTk b (l ++ [x]) c 1 n' = FTr b l c 1 n := by unfold FTk FTr; rw [List.length_append, hn]; rfl
  rw [hF]
  refine Seen.three rfl rfl rfl (fun _ _ _ h => h) (fun _ _ _ h => h) fun ρ s w h => ?_
  refine row_app (α := In) (es := 7) (n := l.length) (g := fun i j => encL l i j) (ts := _) rfl rfl (fun i j => rfl) (fun j hj => ?_) (by simpa only [Nat.zero_add] using h)
  match j, hj with
  | 0, _ => rfl
  | 1, _ => rfl
  | 2, _ => rfl
  | 3, _ => rfl
  | 4, _ => rfl
  | 5, _ => rfl
  | 6, _ => rfl
theorem tk_loop {b : List U8} {c n0 : Nat} {β : Bs} (hβ : β.X.length = 1) (hb : b.all (okA U8) = true) (hn0 : n0 = bt b 0 * 256 + bt b 1) (p0 : TkP) (hp0 : ITk b n0 p0) :
    LoopJ Try.prog β (exTk b c) 0 (loopOf Try.prog 10 0) (FTk b (lTk b p0) c 1 (nTk n0 p0 : Nat)) (sTk b p0) := by
  refine loop_rule (ITk b n0) (fun p => FTk b (lTk b p) c 1 (nTk n0 p : Nat)) (fun p => sTk b p) (mTk n0) (fun p hp K hK => ?_) p0 hp0
  have hK : ∀ l, GoodTk b l → K (.exit 0) (FTx b l c 1) (STx b l) := hK
  obtain ⟨j, bad, x, cb⟩ := p
  obtain ⟨h1, h2, h3⟩ := hp
  have h1 : j ≤ n0 := h1
  have h2 : (parI b j).1 ≤ b.length := h2
  have hb0 := bt_lt hb 0
  have hb1 := bt_lt hb 1
  have hlen := parI_len b j
  have hgoal : ∀ F S, roundJ Try.prog toldB9 100 20 β (fun _ => 0) (cnOf 1 fun _ => slTk) (fun _ _ => False) 10 0 1 lvTk F S (Nn β (ITk b n0) (mTk n0) (fun p => FTk b (lTk b p) c 1 (nTk n0 p : Nat)) (fun p => sTk b p) ⟨j, bad, x, cb⟩ K) → J Try.prog β (loopOf Try.prog 10 0) F S (Nn β (ITk b n0) (mTk n0) (fun p => FTk b (lTk b p) c 1 (nTk n0 p : Nat)) (fun p => sTk b p) ⟨j, bad, x, cb⟩ K) := fun F S h => roundJ_ok follows toldB9_ok hβ h
  refine hgoal _ _ ?_
  cases bad with
  | true =>
    obtain ⟨h4, h5, h6⟩ := h3 rfl
    show roundJ _ _ _ _ _ _ _ _ _ _ _ _ (FTk b ((parI b j).2 ++ [x]) c 1 _) (STb b ((parI b j).2 ++ [x])) _
    rw [vc_tb_r]
    have hx := hK _ (tk_bad hb hn0 h4 h5 h2 h6)
    exact br_of (fun _ => Nn.exit (Seen.refl _ _ _) hx) (fun _ => Nn.exit (Seen.refl _ _ _) hx)
  | false =>
    show roundJ _ _ _ _ _ _ _ _ _ _ _ _ (FTk b (parI b j).2 c 1 ((n0 - j : Nat) : Int)) (STk b (parI b j).1 (b.length - (parI b j).1) cb (parI b j).2) _
    by_cases hj : j < n0
    · have hw : IntKind.wrap .u64 (((n0 - j : Nat) : Int) - 1) = ((n0 - j - 1 : Nat) : Int) := by
        have : ((n0 - j : Nat) : Int) - 1 = ((n0 - j - 1 : Nat) : Int) := by omega
        rw [this]; exact wrap64u (by omega)
      refine tk_main hb (by omega) (by omega) (by omega) (fun x0 x1 x2 x3 x4 x5 x6 hf hm => ?_) (fun k' m' cb' x0 x1 x2 x3 x4 x5 x6 hx hk hm hwd => ?_)
      · refine Nn.next (I := ITk b n0) (m := mTk n0) (F := fun p => FTk b (lTk b p) c 1 (nTk n0 p : Nat)) (S := fun p => sTk b p) (p := ⟨j, false, x, cb⟩) ⟨j, true, ⟨x0, x1, x2, x3, ⟨x4, x5, x6⟩⟩, 0⟩ ⟨h1, h2, fun _ => ⟨hj, hf, hm⟩⟩ (by show 0 < n0 - j + 1; omega) ?_
        exact tk_row (x := ⟨x0, x1, x2, x3, ⟨x4, x5, x6⟩⟩) hw rfl
      · subst hk hm
        have hl2 : (parI b (j + 1)).2 = (parI b j).2 ++ [(⟨x0, x1, x2, x3, ⟨x4, x5, x6⟩⟩ : In)] := by rw [hx]; rfl
        have hk2 : (parI b (j + 1)).1 = (parI b j).1 + wdI b (parI b j).1 := rfl
        refine Nn.next (I := ITk b n0) (m := mTk n0) (F := fun p => FTk b (lTk b p) c 1 (nTk n0 p : Nat)) (S := fun p => sTk b p) (p := ⟨j, false, x, cb⟩) ⟨j + 1, false, x, cb'⟩ ⟨hj, by show (parI b (j + 1)).1 ≤ _; rw [hk2]; omega, fun h => by cases h⟩ (by show n0 - (j + 1) + 1 < n0 - j + 1; omega) ?_
        have hnn : (nTk n0 ⟨j + 1, false, x, cb'⟩ : Nat) = n0 - j - 1 := by show n0 - (j + 1) = _; omega
        show Seen β _ _ (FTk b (parI b (j + 1)).2 c 1 ((nTk n0 ⟨j + 1, false, x, cb'⟩ : Nat) : Int)) (STk b (parI b (j + 1)).1 (b.length - (parI b (j + 1)).1) cb' (parI b (j + 1)).2)
        rw [hnn, hl2, hk2]
        refine tk_row (x := ⟨x0, x1, x2, x3, ⟨x4, x5, x6⟩⟩) hw ?_
        unfold STk
        rw [Nat.sub_sub]
    · have hj : j = n0 := by omega
      have hx := hK _ (tk_good hb hn0)
      rw [← hj] at hx
      rw [vc_tk_r]
      have c0 : decide (((n0 - j : Nat) : Int) > 0) = false := decide_eq_false (by omega)
      rw [c0, br_f]
      exact Nn.exit (Seen.refl _ _ _) hx
open Classical in
noncomputable def tiO (b : List U8) : Bool := decide (∃ l, isPar b l)
open Classical in
noncomputable def tiL (b : List U8) : List In := if h : ∃ l, isPar b l then Classical.choose h else []
noncomputable def tiA (b : List U8) (_ : Nat) : Ans := .rets [.cell (ownL (tiL b) 1), .cell (.sc (.bool (tiO b)))]
open Classical in
theorem ti_yes {b : List U8} {l : List In} (hg : GoodTk b l) (h : isPar b l) : tiO b = true ∧ tiL b = l := by
  have he : ∃ l, isPar b l := ⟨l, h⟩
  refine ⟨decide_eq_true he, ?_⟩
  unfold tiL
  rw [dif_pos he]
  exact (hg.2.2.2 _ (Classical.choose_spec he)).symm
open Classical in
theorem ti_no {b : List U8} {l : List In} (hg : GoodTk b l) (h : ¬ isPar b l) : tiO b = false ∧ tiL b = [] := by
  have he : ¬ ∃ l, isPar b l := fun ⟨l0, h0⟩ => h (by rw [hg.2.2.2 l0 h0]; exact h0)
  exact ⟨decide_eq_false he, by unfold tiL; rw [dif_neg he]⟩
theorem ti_leafN {b : List U8} {l : List In} {M : List (Option AObj)} (hg : GoodTk b l) (h : ¬ isPar b l) : ∃ m2, objsR M m2 ∧ ansE (tiA b 0) (.returned (.tuple ⟨[.slice none 0 0, .bool false]⟩)) (mkS m2) := by
  obtain ⟨e1, e2⟩ := ti_no hg h
  refine ⟨_, objsR.refl _, ⟨_, [], rfl, ⟨[], [], rfl, ?_, [], [], rfl, ⟨rfl, by rw [e1], rfl⟩, rfl⟩, by simp⟩⟩
  rw [e2]
  exact .inl ⟨rfl, rfl, rfl, rfl⟩
theorem ti_leafY {b : List U8} {l : List In} {M : List (Option AObj)} (hg : GoodTk b l) (h : isPar b l) (hM : M[1]? = some (some (.row .mine 7 0 l.length (encL l)))) : ∃ m2, objsR M m2 ∧ ansE (tiA b 0) (.returned (.tuple ⟨[.slice (some ⟨1, 0, some 0⟩) l.length 1, .bool true]⟩)) (mkS m2) := by
  obtain ⟨e1, e2⟩ := ti_yes hg h
  have hkl := (List.getElem?_eq_some_iff.1 hM).1
  refine ⟨_, outAt (o2 := rowO .mine l) hM rfl (fun _ _ _ h => h), ⟨_, [1], rfl, ⟨[1], [], rfl, ?_, [], [], rfl, ⟨rfl, by rw [e1], rfl⟩, rfl⟩, by simp⟩⟩
  rw [e2]
  exact own_at hkl rfl (fun _ => rfl)
theorem okA_fit {l : List In} (h : l.all inFit = true) : l.all (okA In) = true := h
theorem ti_exit {b : List U8} {l : List In} {c : Nat} {M1 M2 M3 : List (Option AObj)} {K : AE → List (Option AObj) → Prop} (hb : b.all (okA U8) = true) (hbl : b.length ≤ 1000000) (hc : c ≤ 1) (hg : GoodTk b l)
    (k1 : ¬ isPar b l → K (.returned (.tuple ⟨[.slice none 0 0, .bool false]⟩)) M1) (k2 : ¬ isPar b l → K (.returned (.tuple ⟨[.slice none 0 0, .bool false]⟩)) M2) (k3 : isPar b l → K (.returned (.tuple ⟨[.slice (some ⟨1, 0, some 0⟩) l.length 1, .bool true]⟩)) M3) :
    need (true && Nat.ble (0 + l.length) l.length) (need (ok1 In (fun l x => List.all l (okA In)) [Ta.cell (Td.fr 7 l.length 1 fun i => encL l (0 + i))])
      (br ((Nat.beq (ipL (listT In (Td.fr 7 l.length 1 fun i => encL l (0 + i)))).length 0 && Nat.beq (ipC (listT In (Td.fr 7 l.length 1 fun i => encL l (0 + i)))) 1) == true) (K (.returned (.tuple ⟨[.slice none 0 0, .bool false]⟩)) M1)
      (need (true && Nat.ble (0 + (ipL (listT In (Td.fr 7 l.length 1 fun i => encL l (0 + i)))).length) (ipL (listT In (Td.fr 7 l.length 1 fun i => encL l (0 + i)))).length) (need (true && Nat.ble (0 + b.length) b.length)
      (need (ok2 U8 U8 (fun _ _ _ _ => true) [Ta.cell (Td.fr 1 (ipL (listT In (Td.fr 7 l.length 1 fun i => encL l (0 + i)))).length (ipC (listT In (Td.fr 7 l.length 1 fun i => encL l (0 + i)))) fun i => encL (ipL (listT In (Td.fr 7 l.length 1 fun i => encL l (0 + i)))) (0 + i)), Ta.cell (Td.fr 1 b.length c fun i => encL b (0 + i))])
      (br (!sameU (listT U8 (Td.fr 1 (ipL (listT In (Td.fr 7 l.length 1 fun i => encL l (0 + i)))).length (ipC (listT In (Td.fr 7 l.length 1 fun i => encL l (0 + i)))) fun i => encL (ipL (listT In (Td.fr 7 l.length 1 fun i => encL l (0 + i)))) (0 + i))) (listT U8 (Td.fr 1 b.length c fun i => encL b (0 + i)))) (K (.returned (.tuple ⟨[.slice none 0 0, .bool false]⟩)) M2) (K (.returned (.tuple ⟨[.slice (some ⟨1, 0, some 0⟩) l.length 1, .bool true]⟩)) M3))))))) := by
  have hf := okA_fit hg.1
  have hll := hg.2.1
  have o1 : ok1 In (fun l x => List.all l (okA In)) [Ta.cell (Td.fr 7 l.length 1 (encL l))] = true := by
    show (okT In (tdL l 1) && (listT In (tdL l 1)).all (okA In)) = true
    rw [okT_tdL hf (by omega) (by omega), listT_tdL, hf]; rfl
  simp only [encZ, Nat.zero_add, bleS, Bool.true_and, need_t, o1, lIn, lU]
  cases hq : ipG l with
  | false =>
    have e1 : ipL l = [] := by unfold ipL; rw [hq]; rfl
    have e2 : ipC l = 1 := by unfold ipC; rw [hq]; rfl
    rw [e1, e2]
    have : ((Nat.beq ([] : List U8).length 0 && Nat.beq 1 1) == true) = true := rfl
    rw [this, br_t]
    refine k1 fun h => ?_
    have : ipG l = true := by unfold ipG; rw [decide_eq_true h.1, h.2.1]; rfl
    rw [hq] at this; cases this
  | true =>
    have e1 : ipL l = putN l l.length := by unfold ipL; rw [hq]; rfl
    have e2 : ipC l = 0 := by unfold ipC; rw [hq]; rfl
    have hp := putN_len l l.length
    rw [e1, e2]
    have : ((Nat.beq (putN l l.length).length 0 && Nat.beq 0 1) == true) = false := by
      have : Nat.beq (putN l l.length).length 0 = false := beq_false (by omega)
      rw [this]; rfl
    have o2 : ok2 U8 U8 (fun _ _ _ _ => true) [Ta.cell (Td.fr 1 (putN l l.length).length 0 (encL (putN l l.length))), Ta.cell (Td.fr 1 b.length c (encL b))] = true := by
      show (okT U8 (tdL (putN l l.length) 0) && okT U8 (tdL b c) && true) = true
      rw [okT_tdL (putN_ok l _) (by omega) (by omega), okT_tdL hb hbl hc]; rfl
    rw [this, br_f, o2, need_t]
    refine br_of (fun q => k2 fun h => ?_) (fun q => k3 ?_)
    · rw [Bool.not_eq_true'] at q
      have := (sameU_eq _ _).2 h.2.2.2.1
      rw [q] at this; cases this
    · rw [Bool.not_eq_false', sameU_eq] at q
      exact hg.2.2.1 hq q
theorem itk_told : ToldW Try.prog 10 (ok1 U8 fun l _ => l.all (okA U8)) (ans1 U8 tiA) := by
  refine told1' fun b c hl hc hok => ⟨toldT, 100, 20, fun _ => 0, fun _ => slTk, exTk b c, toldT_ok, fun β hβ => ?_⟩
  show lawE _ _ _ _ _ _ _ _ _ _ _ (outK fun r m => ∃ m2, objsR m m2 ∧ ansE (tiA b 0) r (mkS m2))
  rw [vc_take]
  have hb0 := bt_lt hok 0
  have hb1 := bt_lt hok 1
  refine br_of (fun q => ?_) (fun q => ?_)
  · have h2 : b.length < 2 := by simp at q; omega
    refine ⟨?_, fun l hg => ti_exit (K := fun r m => ∃ m2, objsR m m2 ∧ ansE (tiA b 0) r (mkS m2)) hok hl hc hg (fun h => ti_leafN hg h) (fun h => ti_leafN hg h) (fun h => ti_leafY hg h rfl)⟩
    refine LoopJ.seen (f1 := FTk b [] c 1 0) (st1 := STb b []) (Seen.nilSlot 5 7 (encL ([] : List In)) rfl rfl rfl fun t v h => ?_) ⟨fun K hK => ?_⟩
    · rcases mkFT_get _ _ t v h with h1 | h1
      · simp at h1
        rcases h1 with ⟨rfl, rfl⟩ | ⟨rfl, rfl⟩ | ⟨rfl, rfl⟩ | ⟨rfl, rfl⟩
        · exact .inr rfl
        · exact .inr rfl
        · exact .inl ⟨rfl, rfl⟩
        · exact .inr rfl
      · cases h1
    · refine (loop_rule (P := Try.prog) (β := β) (ex := exTk b c) (b := 0) (c := loopOf Try.prog 10 0) (fun _ : Unit => True) (fun _ => FTk b [] c 1 0) (fun _ => STb b []) (fun _ => 0) (fun p _ K hK => ?_) () trivial).ok K hK
      have hK : ∀ l, GoodTk b l → K (.exit 0) (FTx b l c 1) (STx b l) := hK
      have hgoal : ∀ F S, roundJ Try.prog toldB9 100 20 β (fun _ => 0) (cnOf 1 fun _ => slTk) (fun _ _ => False) 10 0 1 lvTk F S (Nn β (fun _ : Unit => True) (fun _ => 0) (fun _ => FTk b [] c 1 0) (fun _ => STb b []) () K) → J Try.prog β (loopOf Try.prog 10 0) F S (Nn β (fun _ : Unit => True) (fun _ => 0) (fun _ => FTk b [] c 1 0) (fun _ => STb b []) () K) := fun F S h => roundJ_ok follows toldB9_ok hβ h
      refine hgoal _ _ ?_
      rw [vc_tb_r]
      have hx := hK [] (tk_short h2)
      exact br_of (fun _ => Nn.exit (Seen.refl _ _ _) hx) (fun _ => Nn.exit (Seen.refl _ _ _) hx)
  · have h2 : 2 ≤ b.length := by simp at q; omega
    have b2 : Nat.ble 2 b.length = true := Nat.ble_eq_true_of_le h2
    have c0 : Nat.blt 0 b.length = true := by simp; omega
    have c1 : Nat.blt 1 b.length = true := by simp; omega
    have hu := bt_u64 hok
    have z := or_z (x := bt b 0) (by omega)
    have s := or_s (v := bt b 0) (x := bt b 1) (by omega) hb1
    simp only [b2, c0, c1, Bool.true_and, need_t, hu, z, s]
    refine ⟨?_, fun l hg => ti_exit (K := fun r m => ∃ m2, objsR m m2 ∧ ansE (tiA b 0) r (mkS m2)) hok hl hc hg (fun h => ti_leafN hg h) (fun h => ti_leafN hg h) (fun h => ti_leafY hg h rfl)⟩
    refine LoopJ.seen ?_ (tk_loop (n0 := bt b 0 * 256 + bt b 1) hβ hok rfl ⟨0, false, Enc.dflt, bif Nat.beq b.length 0 then c else 0⟩ ⟨Nat.zero_le _, h2, fun h => by cases h⟩)
    refine Seen.nilSlot 5 7 (encL ([] : List In)) rfl rfl rfl fun t v h => ?_
    rcases mkFT_get _ _ t v h with h1 | h1
    · simp at h1
      rcases h1 with ⟨rfl, rfl⟩ | ⟨rfl, rfl⟩ | ⟨rfl, rfl⟩ | ⟨rfl, rfl⟩
      · exact .inr rfl
      · exact .inr rfl
      · exact .inl ⟨rfl, rfl⟩
      · exact .inr rfl
    · cases h1
noncomputable def toldV1 : Told := toldT.tree 10 (ok1 U8 fun l _ => l.all (okA U8)) (ans1 U8 tiA)
theorem toldV1_ok : ToldS Try.prog toldV1 := Told.tree_ok toldT_ok itk_told
end Go.Proofs.Ytncndnlbiijdoaa.Ev
