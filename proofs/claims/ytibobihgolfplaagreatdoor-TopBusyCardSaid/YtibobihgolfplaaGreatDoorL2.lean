/-
  TopBusy's law. (Printed by tools/busy.py.)
-/
import Derived.Test.YtibobihgolfplaaGreatDoorByE
import Derived.Test.YtibobihgolfplaaGreatDoorByL
import Derived.Test.YtibobihgolfplaaGreatDoorGi
import Derived.Test.YtibobihgolfplaaGreatDoorL1
set_option maxRecDepth 1000000
set_option linter.unusedVariables false
set_option linter.unusedSimpArgs false
section
namespace Go.Proofs.YtibobihgolfplaaGreatDoor.Ev
open Go Go.RowKit
def exB8(m L:Nat)(x:Int)(c:Nat)(y:Nat→Int):Nat→Kt→Prop:=fun b K=>cond (Nat.beq b 0) (exBy m L x c y K) (∀(o n N:Int) (r:Nat),K (.exit 8) (byF9 m L) (mkS (byE m (byRow L y) L o n N r dustE)))
theorem byl1_0(x:Int)(c:Nat)(y:Nat→Int)(β:Bs):lawE Tryz.prog toldK 1000 50 β (fun _=>0) (cnOf 1 byLv) (exB8 1 0 x c y) 4 [.int .u8 x,bySlice 0 c] (mkS [some (byRow 0 y)]) trueE=(LoopJ Tryz.prog β (exB8 1 0 x c y) 0 (loopOf Tryz.prog 4 0) (mkF 198 [(0,.int .u8 x),(1,bySlice 0 c),(5,.pointer (some ⟨1,0,none⟩)),(7,.int .i64 0),(8,.map (some 16)),(9,.int .i64 0)]) (mkS (byH0 (byRow 0 y)))∧ ∀(o n N:Int) (r:Nat),(LoopJ Tryz.prog β (exB8 1 0 x c y) 8 (loopOf Tryz.prog 4 8) (byF8 1 0 (mOf x)) (mkS (byS 1 (byRow 0 y) 0 o n N r dustE))∧ ∀(o n N:Int) (r:Nat),True)):=by kernel_rfl
theorem byl1_1(x:Int)(c:Nat)(y:Nat→Int)(β:Bs):lawE Tryz.prog toldK 1000 50 β (fun _=>0) (cnOf 1 byLv) (exB8 1 1 x c y) 4 [.int .u8 x,bySlice 1 c] (mkS [some (byRow 1 y)]) trueE=(LoopJ Tryz.prog β (exB8 1 1 x c y) 0 (loopOf Tryz.prog 4 0) (mkF 198 [(0,.int .u8 x),(1,bySlice 1 c),(5,.pointer (some ⟨1,0,none⟩)),(7,.int .i64 0),(8,.map (some 16)),(9,.int .i64 0)]) (mkS (byH0 (byRow 1 y)))∧ ∀(o n N:Int) (r:Nat),(LoopJ Tryz.prog β (exB8 1 1 x c y) 8 (loopOf Tryz.prog 4 8) (byF8 1 1 (mOf x)) (mkS (byS 1 (byRow 1 y) 1 o n N r dustE))∧ ∀(o n N:Int) (r:Nat),True)):=by kernel_rfl
theorem byl1_2(x:Int)(c:Nat)(y:Nat→Int)(β:Bs):lawE Tryz.prog toldK 1000 50 β (fun _=>0) (cnOf 1 byLv) (exB8 1 2 x c y) 4 [.int .u8 x,bySlice 2 c] (mkS [some (byRow 2 y)]) trueE=(LoopJ Tryz.prog β (exB8 1 2 x c y) 0 (loopOf Tryz.prog 4 0) (mkF 198 [(0,.int .u8 x),(1,bySlice 2 c),(5,.pointer (some ⟨1,0,none⟩)),(7,.int .i64 0),(8,.map (some 16)),(9,.int .i64 0)]) (mkS (byH0 (byRow 2 y)))∧ ∀(o n N:Int) (r:Nat),(LoopJ Tryz.prog β (exB8 1 2 x c y) 8 (loopOf Tryz.prog 4 8) (byF8 1 2 (mOf x)) (mkS (byS 1 (byRow 2 y) 2 o n N r dustE))∧ ∀(o n N:Int) (r:Nat),True)):=by kernel_rfl
theorem byl1_3(x:Int)(c:Nat)(y:Nat→Int)(β:Bs):lawE Tryz.prog toldK 1000 50 β (fun _=>0) (cnOf 1 byLv) (exB8 1 3 x c y) 4 [.int .u8 x,bySlice 3 c] (mkS [some (byRow 3 y)]) trueE=(LoopJ Tryz.prog β (exB8 1 3 x c y) 0 (loopOf Tryz.prog 4 0) (mkF 198 [(0,.int .u8 x),(1,bySlice 3 c),(5,.pointer (some ⟨1,0,none⟩)),(7,.int .i64 0),(8,.map (some 16)),(9,.int .i64 0)]) (mkS (byH0 (byRow 3 y)))∧ ∀(o n N:Int) (r:Nat),(LoopJ Tryz.prog β (exB8 1 3 x c y) 8 (loopOf Tryz.prog 4 8) (byF8 1 3 (mOf x)) (mkS (byS 1 (byRow 3 y) 3 o n N r dustE))∧ ∀(o n N:Int) (r:Nat),True)):=by kernel_rfl
theorem byl1_4(x:Int)(c:Nat)(y:Nat→Int)(β:Bs):lawE Tryz.prog toldK 1000 50 β (fun _=>0) (cnOf 1 byLv) (exB8 1 4 x c y) 4 [.int .u8 x,bySlice 4 c] (mkS [some (byRow 4 y)]) trueE=(LoopJ Tryz.prog β (exB8 1 4 x c y) 0 (loopOf Tryz.prog 4 0) (mkF 198 [(0,.int .u8 x),(1,bySlice 4 c),(5,.pointer (some ⟨1,0,none⟩)),(7,.int .i64 0),(8,.map (some 16)),(9,.int .i64 0)]) (mkS (byH0 (byRow 4 y)))∧ ∀(o n N:Int) (r:Nat),(LoopJ Tryz.prog β (exB8 1 4 x c y) 8 (loopOf Tryz.prog 4 8) (byF8 1 4 (mOf x)) (mkS (byS 1 (byRow 4 y) 4 o n N r dustE))∧ ∀(o n N:Int) (r:Nat),True)):=by kernel_rfl
theorem byl1_5(x:Int)(c:Nat)(y:Nat→Int)(β:Bs):lawE Tryz.prog toldK 1000 50 β (fun _=>0) (cnOf 1 byLv) (exB8 1 5 x c y) 4 [.int .u8 x,bySlice 5 c] (mkS [some (byRow 5 y)]) trueE=(LoopJ Tryz.prog β (exB8 1 5 x c y) 0 (loopOf Tryz.prog 4 0) (mkF 198 [(0,.int .u8 x),(1,bySlice 5 c),(5,.pointer (some ⟨1,0,none⟩)),(7,.int .i64 0),(8,.map (some 16)),(9,.int .i64 0)]) (mkS (byH0 (byRow 5 y)))∧ ∀(o n N:Int) (r:Nat),(LoopJ Tryz.prog β (exB8 1 5 x c y) 8 (loopOf Tryz.prog 4 8) (byF8 1 5 (mOf x)) (mkS (byS 1 (byRow 5 y) 5 o n N r dustE))∧ ∀(o n N:Int) (r:Nat),True)):=by kernel_rfl
theorem byl1_6(x:Int)(c:Nat)(y:Nat→Int)(β:Bs):lawE Tryz.prog toldK 1000 50 β (fun _=>0) (cnOf 1 byLv) (exB8 1 6 x c y) 4 [.int .u8 x,bySlice 6 c] (mkS [some (byRow 6 y)]) trueE=(LoopJ Tryz.prog β (exB8 1 6 x c y) 0 (loopOf Tryz.prog 4 0) (mkF 198 [(0,.int .u8 x),(1,bySlice 6 c),(5,.pointer (some ⟨1,0,none⟩)),(7,.int .i64 0),(8,.map (some 16)),(9,.int .i64 0)]) (mkS (byH0 (byRow 6 y)))∧ ∀(o n N:Int) (r:Nat),(LoopJ Tryz.prog β (exB8 1 6 x c y) 8 (loopOf Tryz.prog 4 8) (byF8 1 6 (mOf x)) (mkS (byS 1 (byRow 6 y) 6 o n N r dustE))∧ ∀(o n N:Int) (r:Nat),True)):=by kernel_rfl
theorem byl1_7(x:Int)(c:Nat)(y:Nat→Int)(β:Bs):lawE Tryz.prog toldK 1000 50 β (fun _=>0) (cnOf 1 byLv) (exB8 1 7 x c y) 4 [.int .u8 x,bySlice 7 c] (mkS [some (byRow 7 y)]) trueE=(LoopJ Tryz.prog β (exB8 1 7 x c y) 0 (loopOf Tryz.prog 4 0) (mkF 198 [(0,.int .u8 x),(1,bySlice 7 c),(5,.pointer (some ⟨1,0,none⟩)),(7,.int .i64 0),(8,.map (some 16)),(9,.int .i64 0)]) (mkS (byH0 (byRow 7 y)))∧ ∀(o n N:Int) (r:Nat),(LoopJ Tryz.prog β (exB8 1 7 x c y) 8 (loopOf Tryz.prog 4 8) (byF8 1 7 (mOf x)) (mkS (byS 1 (byRow 7 y) 7 o n N r dustE))∧ ∀(o n N:Int) (r:Nat),True)):=by kernel_rfl
theorem byl1_8(x:Int)(c:Nat)(y:Nat→Int)(β:Bs):lawE Tryz.prog toldK 1000 50 β (fun _=>0) (cnOf 1 byLv) (exB8 1 8 x c y) 4 [.int .u8 x,bySlice 8 c] (mkS [some (byRow 8 y)]) trueE=(LoopJ Tryz.prog β (exB8 1 8 x c y) 0 (loopOf Tryz.prog 4 0) (mkF 198 [(0,.int .u8 x),(1,bySlice 8 c),(5,.pointer (some ⟨1,0,none⟩)),(7,.int .i64 0),(8,.map (some 16)),(9,.int .i64 0)]) (mkS (byH0 (byRow 8 y)))∧ ∀(o n N:Int) (r:Nat),(LoopJ Tryz.prog β (exB8 1 8 x c y) 8 (loopOf Tryz.prog 4 8) (byF8 1 8 (mOf x)) (mkS (byS 1 (byRow 8 y) 8 o n N r dustE))∧ ∀(o n N:Int) (r:Nat),True)):=by kernel_rfl
theorem byl1_9(x:Int)(c:Nat)(y:Nat→Int)(β:Bs):lawE Tryz.prog toldK 1000 50 β (fun _=>0) (cnOf 1 byLv) (exB8 1 9 x c y) 4 [.int .u8 x,bySlice 9 c] (mkS [some (byRow 9 y)]) trueE=(LoopJ Tryz.prog β (exB8 1 9 x c y) 0 (loopOf Tryz.prog 4 0) (mkF 198 [(0,.int .u8 x),(1,bySlice 9 c),(5,.pointer (some ⟨1,0,none⟩)),(7,.int .i64 0),(8,.map (some 16)),(9,.int .i64 0)]) (mkS (byH0 (byRow 9 y)))∧ ∀(o n N:Int) (r:Nat),(LoopJ Tryz.prog β (exB8 1 9 x c y) 8 (loopOf Tryz.prog 4 8) (byF8 1 9 (mOf x)) (mkS (byS 1 (byRow 9 y) 9 o n N r dustE))∧ ∀(o n N:Int) (r:Nat),True)):=by kernel_rfl
theorem byl1_10(x:Int)(c:Nat)(y:Nat→Int)(β:Bs):lawE Tryz.prog toldK 1000 50 β (fun _=>0) (cnOf 1 byLv) (exB8 1 10 x c y) 4 [.int .u8 x,bySlice 10 c] (mkS [some (byRow 10 y)]) trueE=(LoopJ Tryz.prog β (exB8 1 10 x c y) 0 (loopOf Tryz.prog 4 0) (mkF 198 [(0,.int .u8 x),(1,bySlice 10 c),(5,.pointer (some ⟨1,0,none⟩)),(7,.int .i64 0),(8,.map (some 16)),(9,.int .i64 0)]) (mkS (byH0 (byRow 10 y)))∧ ∀(o n N:Int) (r:Nat),(LoopJ Tryz.prog β (exB8 1 10 x c y) 8 (loopOf Tryz.prog 4 8) (byF8 1 10 (mOf x)) (mkS (byS 1 (byRow 10 y) 10 o n N r dustE))∧ ∀(o n N:Int) (r:Nat),True)):=by kernel_rfl
theorem byl2_0(x:Int)(c:Nat)(y:Nat→Int)(β:Bs):lawE Tryz.prog toldK 1000 50 β (fun _=>0) (cnOf 1 byLv) (exB8 2 0 x c y) 4 [.int .u8 x,bySlice 0 c] (mkS [some (byRow 0 y)]) trueE=(LoopJ Tryz.prog β (exB8 2 0 x c y) 0 (loopOf Tryz.prog 4 0) (mkF 198 [(0,.int .u8 x),(1,bySlice 0 c),(5,.pointer (some ⟨1,0,none⟩)),(7,.int .i64 0),(8,.map (some 16)),(9,.int .i64 0)]) (mkS (byH0 (byRow 0 y)))∧ ∀(o n N:Int) (r:Nat),(LoopJ Tryz.prog β (exB8 2 0 x c y) 8 (loopOf Tryz.prog 4 8) (byF8 2 0 (mOf x)) (mkS (byS 2 (byRow 0 y) 0 o n N r dustE))∧ ∀(o n N:Int) (r:Nat),True)):=by kernel_rfl
theorem byl2_1(x:Int)(c:Nat)(y:Nat→Int)(β:Bs):lawE Tryz.prog toldK 1000 50 β (fun _=>0) (cnOf 1 byLv) (exB8 2 1 x c y) 4 [.int .u8 x,bySlice 1 c] (mkS [some (byRow 1 y)]) trueE=(LoopJ Tryz.prog β (exB8 2 1 x c y) 0 (loopOf Tryz.prog 4 0) (mkF 198 [(0,.int .u8 x),(1,bySlice 1 c),(5,.pointer (some ⟨1,0,none⟩)),(7,.int .i64 0),(8,.map (some 16)),(9,.int .i64 0)]) (mkS (byH0 (byRow 1 y)))∧ ∀(o n N:Int) (r:Nat),(LoopJ Tryz.prog β (exB8 2 1 x c y) 8 (loopOf Tryz.prog 4 8) (byF8 2 1 (mOf x)) (mkS (byS 2 (byRow 1 y) 1 o n N r dustE))∧ ∀(o n N:Int) (r:Nat),True)):=by kernel_rfl
theorem byl2_2(x:Int)(c:Nat)(y:Nat→Int)(β:Bs):lawE Tryz.prog toldK 1000 50 β (fun _=>0) (cnOf 1 byLv) (exB8 2 2 x c y) 4 [.int .u8 x,bySlice 2 c] (mkS [some (byRow 2 y)]) trueE=(LoopJ Tryz.prog β (exB8 2 2 x c y) 0 (loopOf Tryz.prog 4 0) (mkF 198 [(0,.int .u8 x),(1,bySlice 2 c),(5,.pointer (some ⟨1,0,none⟩)),(7,.int .i64 0),(8,.map (some 16)),(9,.int .i64 0)]) (mkS (byH0 (byRow 2 y)))∧ ∀(o n N:Int) (r:Nat),(LoopJ Tryz.prog β (exB8 2 2 x c y) 8 (loopOf Tryz.prog 4 8) (byF8 2 2 (mOf x)) (mkS (byS 2 (byRow 2 y) 2 o n N r dustE))∧ ∀(o n N:Int) (r:Nat),True)):=by kernel_rfl
theorem byl2_3(x:Int)(c:Nat)(y:Nat→Int)(β:Bs):lawE Tryz.prog toldK 1000 50 β (fun _=>0) (cnOf 1 byLv) (exB8 2 3 x c y) 4 [.int .u8 x,bySlice 3 c] (mkS [some (byRow 3 y)]) trueE=(LoopJ Tryz.prog β (exB8 2 3 x c y) 0 (loopOf Tryz.prog 4 0) (mkF 198 [(0,.int .u8 x),(1,bySlice 3 c),(5,.pointer (some ⟨1,0,none⟩)),(7,.int .i64 0),(8,.map (some 16)),(9,.int .i64 0)]) (mkS (byH0 (byRow 3 y)))∧ ∀(o n N:Int) (r:Nat),(LoopJ Tryz.prog β (exB8 2 3 x c y) 8 (loopOf Tryz.prog 4 8) (byF8 2 3 (mOf x)) (mkS (byS 2 (byRow 3 y) 3 o n N r dustE))∧ ∀(o n N:Int) (r:Nat),True)):=by kernel_rfl
theorem byl2_4(x:Int)(c:Nat)(y:Nat→Int)(β:Bs):lawE Tryz.prog toldK 1000 50 β (fun _=>0) (cnOf 1 byLv) (exB8 2 4 x c y) 4 [.int .u8 x,bySlice 4 c] (mkS [some (byRow 4 y)]) trueE=(LoopJ Tryz.prog β (exB8 2 4 x c y) 0 (loopOf Tryz.prog 4 0) (mkF 198 [(0,.int .u8 x),(1,bySlice 4 c),(5,.pointer (some ⟨1,0,none⟩)),(7,.int .i64 0),(8,.map (some 16)),(9,.int .i64 0)]) (mkS (byH0 (byRow 4 y)))∧ ∀(o n N:Int) (r:Nat),(LoopJ Tryz.prog β (exB8 2 4 x c y) 8 (loopOf Tryz.prog 4 8) (byF8 2 4 (mOf x)) (mkS (byS 2 (byRow 4 y) 4 o n N r dustE))∧ ∀(o n N:Int) (r:Nat),True)):=by kernel_rfl
theorem byl2_5(x:Int)(c:Nat)(y:Nat→Int)(β:Bs):lawE Tryz.prog toldK 1000 50 β (fun _=>0) (cnOf 1 byLv) (exB8 2 5 x c y) 4 [.int .u8 x,bySlice 5 c] (mkS [some (byRow 5 y)]) trueE=(LoopJ Tryz.prog β (exB8 2 5 x c y) 0 (loopOf Tryz.prog 4 0) (mkF 198 [(0,.int .u8 x),(1,bySlice 5 c),(5,.pointer (some ⟨1,0,none⟩)),(7,.int .i64 0),(8,.map (some 16)),(9,.int .i64 0)]) (mkS (byH0 (byRow 5 y)))∧ ∀(o n N:Int) (r:Nat),(LoopJ Tryz.prog β (exB8 2 5 x c y) 8 (loopOf Tryz.prog 4 8) (byF8 2 5 (mOf x)) (mkS (byS 2 (byRow 5 y) 5 o n N r dustE))∧ ∀(o n N:Int) (r:Nat),True)):=by kernel_rfl
theorem byl2_6(x:Int)(c:Nat)(y:Nat→Int)(β:Bs):lawE Tryz.prog toldK 1000 50 β (fun _=>0) (cnOf 1 byLv) (exB8 2 6 x c y) 4 [.int .u8 x,bySlice 6 c] (mkS [some (byRow 6 y)]) trueE=(LoopJ Tryz.prog β (exB8 2 6 x c y) 0 (loopOf Tryz.prog 4 0) (mkF 198 [(0,.int .u8 x),(1,bySlice 6 c),(5,.pointer (some ⟨1,0,none⟩)),(7,.int .i64 0),(8,.map (some 16)),(9,.int .i64 0)]) (mkS (byH0 (byRow 6 y)))∧ ∀(o n N:Int) (r:Nat),(LoopJ Tryz.prog β (exB8 2 6 x c y) 8 (loopOf Tryz.prog 4 8) (byF8 2 6 (mOf x)) (mkS (byS 2 (byRow 6 y) 6 o n N r dustE))∧ ∀(o n N:Int) (r:Nat),True)):=by kernel_rfl
theorem byl2_7(x:Int)(c:Nat)(y:Nat→Int)(β:Bs):lawE Tryz.prog toldK 1000 50 β (fun _=>0) (cnOf 1 byLv) (exB8 2 7 x c y) 4 [.int .u8 x,bySlice 7 c] (mkS [some (byRow 7 y)]) trueE=(LoopJ Tryz.prog β (exB8 2 7 x c y) 0 (loopOf Tryz.prog 4 0) (mkF 198 [(0,.int .u8 x),(1,bySlice 7 c),(5,.pointer (some ⟨1,0,none⟩)),(7,.int .i64 0),(8,.map (some 16)),(9,.int .i64 0)]) (mkS (byH0 (byRow 7 y)))∧ ∀(o n N:Int) (r:Nat),(LoopJ Tryz.prog β (exB8 2 7 x c y) 8 (loopOf Tryz.prog 4 8) (byF8 2 7 (mOf x)) (mkS (byS 2 (byRow 7 y) 7 o n N r dustE))∧ ∀(o n N:Int) (r:Nat),True)):=by kernel_rfl
theorem byl2_8(x:Int)(c:Nat)(y:Nat→Int)(β:Bs):lawE Tryz.prog toldK 1000 50 β (fun _=>0) (cnOf 1 byLv) (exB8 2 8 x c y) 4 [.int .u8 x,bySlice 8 c] (mkS [some (byRow 8 y)]) trueE=(LoopJ Tryz.prog β (exB8 2 8 x c y) 0 (loopOf Tryz.prog 4 0) (mkF 198 [(0,.int .u8 x),(1,bySlice 8 c),(5,.pointer (some ⟨1,0,none⟩)),(7,.int .i64 0),(8,.map (some 16)),(9,.int .i64 0)]) (mkS (byH0 (byRow 8 y)))∧ ∀(o n N:Int) (r:Nat),(LoopJ Tryz.prog β (exB8 2 8 x c y) 8 (loopOf Tryz.prog 4 8) (byF8 2 8 (mOf x)) (mkS (byS 2 (byRow 8 y) 8 o n N r dustE))∧ ∀(o n N:Int) (r:Nat),True)):=by kernel_rfl
theorem byl2_9(x:Int)(c:Nat)(y:Nat→Int)(β:Bs):lawE Tryz.prog toldK 1000 50 β (fun _=>0) (cnOf 1 byLv) (exB8 2 9 x c y) 4 [.int .u8 x,bySlice 9 c] (mkS [some (byRow 9 y)]) trueE=(LoopJ Tryz.prog β (exB8 2 9 x c y) 0 (loopOf Tryz.prog 4 0) (mkF 198 [(0,.int .u8 x),(1,bySlice 9 c),(5,.pointer (some ⟨1,0,none⟩)),(7,.int .i64 0),(8,.map (some 16)),(9,.int .i64 0)]) (mkS (byH0 (byRow 9 y)))∧ ∀(o n N:Int) (r:Nat),(LoopJ Tryz.prog β (exB8 2 9 x c y) 8 (loopOf Tryz.prog 4 8) (byF8 2 9 (mOf x)) (mkS (byS 2 (byRow 9 y) 9 o n N r dustE))∧ ∀(o n N:Int) (r:Nat),True)):=by kernel_rfl
theorem byl2_10(x:Int)(c:Nat)(y:Nat→Int)(β:Bs):lawE Tryz.prog toldK 1000 50 β (fun _=>0) (cnOf 1 byLv) (exB8 2 10 x c y) 4 [.int .u8 x,bySlice 10 c] (mkS [some (byRow 10 y)]) trueE=(LoopJ Tryz.prog β (exB8 2 10 x c y) 0 (loopOf Tryz.prog 4 0) (mkF 198 [(0,.int .u8 x),(1,bySlice 10 c),(5,.pointer (some ⟨1,0,none⟩)),(7,.int .i64 0),(8,.map (some 16)),(9,.int .i64 0)]) (mkS (byH0 (byRow 10 y)))∧ ∀(o n N:Int) (r:Nat),(LoopJ Tryz.prog β (exB8 2 10 x c y) 8 (loopOf Tryz.prog 4 8) (byF8 2 10 (mOf x)) (mkS (byS 2 (byRow 10 y) 10 o n N r dustE))∧ ∀(o n N:Int) (r:Nat),True)):=by kernel_rfl
theorem byl3_0(x:Int)(c:Nat)(y:Nat→Int)(β:Bs):lawE Tryz.prog toldK 1000 50 β (fun _=>0) (cnOf 1 byLv) (exB8 3 0 x c y) 4 [.int .u8 x,bySlice 0 c] (mkS [some (byRow 0 y)]) trueE=(LoopJ Tryz.prog β (exB8 3 0 x c y) 0 (loopOf Tryz.prog 4 0) (mkF 198 [(0,.int .u8 x),(1,bySlice 0 c),(5,.pointer (some ⟨1,0,none⟩)),(7,.int .i64 0),(8,.map (some 16)),(9,.int .i64 0)]) (mkS (byH0 (byRow 0 y)))∧ ∀(o n N:Int) (r:Nat),(LoopJ Tryz.prog β (exB8 3 0 x c y) 8 (loopOf Tryz.prog 4 8) (byF8 3 0 (mOf x)) (mkS (byS 3 (byRow 0 y) 0 o n N r dustE))∧ ∀(o n N:Int) (r:Nat),True)):=by kernel_rfl
theorem byl3_1(x:Int)(c:Nat)(y:Nat→Int)(β:Bs):lawE Tryz.prog toldK 1000 50 β (fun _=>0) (cnOf 1 byLv) (exB8 3 1 x c y) 4 [.int .u8 x,bySlice 1 c] (mkS [some (byRow 1 y)]) trueE=(LoopJ Tryz.prog β (exB8 3 1 x c y) 0 (loopOf Tryz.prog 4 0) (mkF 198 [(0,.int .u8 x),(1,bySlice 1 c),(5,.pointer (some ⟨1,0,none⟩)),(7,.int .i64 0),(8,.map (some 16)),(9,.int .i64 0)]) (mkS (byH0 (byRow 1 y)))∧ ∀(o n N:Int) (r:Nat),(LoopJ Tryz.prog β (exB8 3 1 x c y) 8 (loopOf Tryz.prog 4 8) (byF8 3 1 (mOf x)) (mkS (byS 3 (byRow 1 y) 1 o n N r dustE))∧ ∀(o n N:Int) (r:Nat),True)):=by kernel_rfl
theorem byl3_2(x:Int)(c:Nat)(y:Nat→Int)(β:Bs):lawE Tryz.prog toldK 1000 50 β (fun _=>0) (cnOf 1 byLv) (exB8 3 2 x c y) 4 [.int .u8 x,bySlice 2 c] (mkS [some (byRow 2 y)]) trueE=(LoopJ Tryz.prog β (exB8 3 2 x c y) 0 (loopOf Tryz.prog 4 0) (mkF 198 [(0,.int .u8 x),(1,bySlice 2 c),(5,.pointer (some ⟨1,0,none⟩)),(7,.int .i64 0),(8,.map (some 16)),(9,.int .i64 0)]) (mkS (byH0 (byRow 2 y)))∧ ∀(o n N:Int) (r:Nat),(LoopJ Tryz.prog β (exB8 3 2 x c y) 8 (loopOf Tryz.prog 4 8) (byF8 3 2 (mOf x)) (mkS (byS 3 (byRow 2 y) 2 o n N r dustE))∧ ∀(o n N:Int) (r:Nat),True)):=by kernel_rfl
theorem byl3_3(x:Int)(c:Nat)(y:Nat→Int)(β:Bs):lawE Tryz.prog toldK 1000 50 β (fun _=>0) (cnOf 1 byLv) (exB8 3 3 x c y) 4 [.int .u8 x,bySlice 3 c] (mkS [some (byRow 3 y)]) trueE=(LoopJ Tryz.prog β (exB8 3 3 x c y) 0 (loopOf Tryz.prog 4 0) (mkF 198 [(0,.int .u8 x),(1,bySlice 3 c),(5,.pointer (some ⟨1,0,none⟩)),(7,.int .i64 0),(8,.map (some 16)),(9,.int .i64 0)]) (mkS (byH0 (byRow 3 y)))∧ ∀(o n N:Int) (r:Nat),(LoopJ Tryz.prog β (exB8 3 3 x c y) 8 (loopOf Tryz.prog 4 8) (byF8 3 3 (mOf x)) (mkS (byS 3 (byRow 3 y) 3 o n N r dustE))∧ ∀(o n N:Int) (r:Nat),True)):=by kernel_rfl
theorem byl3_4(x:Int)(c:Nat)(y:Nat→Int)(β:Bs):lawE Tryz.prog toldK 1000 50 β (fun _=>0) (cnOf 1 byLv) (exB8 3 4 x c y) 4 [.int .u8 x,bySlice 4 c] (mkS [some (byRow 4 y)]) trueE=(LoopJ Tryz.prog β (exB8 3 4 x c y) 0 (loopOf Tryz.prog 4 0) (mkF 198 [(0,.int .u8 x),(1,bySlice 4 c),(5,.pointer (some ⟨1,0,none⟩)),(7,.int .i64 0),(8,.map (some 16)),(9,.int .i64 0)]) (mkS (byH0 (byRow 4 y)))∧ ∀(o n N:Int) (r:Nat),(LoopJ Tryz.prog β (exB8 3 4 x c y) 8 (loopOf Tryz.prog 4 8) (byF8 3 4 (mOf x)) (mkS (byS 3 (byRow 4 y) 4 o n N r dustE))∧ ∀(o n N:Int) (r:Nat),True)):=by kernel_rfl
theorem byl3_5(x:Int)(c:Nat)(y:Nat→Int)(β:Bs):lawE Tryz.prog toldK 1000 50 β (fun _=>0) (cnOf 1 byLv) (exB8 3 5 x c y) 4 [.int .u8 x,bySlice 5 c] (mkS [some (byRow 5 y)]) trueE=(LoopJ Tryz.prog β (exB8 3 5 x c y) 0 (loopOf Tryz.prog 4 0) (mkF 198 [(0,.int .u8 x),(1,bySlice 5 c),(5,.pointer (some ⟨1,0,none⟩)),(7,.int .i64 0),(8,.map (some 16)),(9,.int .i64 0)]) (mkS (byH0 (byRow 5 y)))∧ ∀(o n N:Int) (r:Nat),(LoopJ Tryz.prog β (exB8 3 5 x c y) 8 (loopOf Tryz.prog 4 8) (byF8 3 5 (mOf x)) (mkS (byS 3 (byRow 5 y) 5 o n N r dustE))∧ ∀(o n N:Int) (r:Nat),True)):=by kernel_rfl
theorem byl3_6(x:Int)(c:Nat)(y:Nat→Int)(β:Bs):lawE Tryz.prog toldK 1000 50 β (fun _=>0) (cnOf 1 byLv) (exB8 3 6 x c y) 4 [.int .u8 x,bySlice 6 c] (mkS [some (byRow 6 y)]) trueE=(LoopJ Tryz.prog β (exB8 3 6 x c y) 0 (loopOf Tryz.prog 4 0) (mkF 198 [(0,.int .u8 x),(1,bySlice 6 c),(5,.pointer (some ⟨1,0,none⟩)),(7,.int .i64 0),(8,.map (some 16)),(9,.int .i64 0)]) (mkS (byH0 (byRow 6 y)))∧ ∀(o n N:Int) (r:Nat),(LoopJ Tryz.prog β (exB8 3 6 x c y) 8 (loopOf Tryz.prog 4 8) (byF8 3 6 (mOf x)) (mkS (byS 3 (byRow 6 y) 6 o n N r dustE))∧ ∀(o n N:Int) (r:Nat),True)):=by kernel_rfl
theorem byl3_7(x:Int)(c:Nat)(y:Nat→Int)(β:Bs):lawE Tryz.prog toldK 1000 50 β (fun _=>0) (cnOf 1 byLv) (exB8 3 7 x c y) 4 [.int .u8 x,bySlice 7 c] (mkS [some (byRow 7 y)]) trueE=(LoopJ Tryz.prog β (exB8 3 7 x c y) 0 (loopOf Tryz.prog 4 0) (mkF 198 [(0,.int .u8 x),(1,bySlice 7 c),(5,.pointer (some ⟨1,0,none⟩)),(7,.int .i64 0),(8,.map (some 16)),(9,.int .i64 0)]) (mkS (byH0 (byRow 7 y)))∧ ∀(o n N:Int) (r:Nat),(LoopJ Tryz.prog β (exB8 3 7 x c y) 8 (loopOf Tryz.prog 4 8) (byF8 3 7 (mOf x)) (mkS (byS 3 (byRow 7 y) 7 o n N r dustE))∧ ∀(o n N:Int) (r:Nat),True)):=by kernel_rfl
theorem byl3_8(x:Int)(c:Nat)(y:Nat→Int)(β:Bs):lawE Tryz.prog toldK 1000 50 β (fun _=>0) (cnOf 1 byLv) (exB8 3 8 x c y) 4 [.int .u8 x,bySlice 8 c] (mkS [some (byRow 8 y)]) trueE=(LoopJ Tryz.prog β (exB8 3 8 x c y) 0 (loopOf Tryz.prog 4 0) (mkF 198 [(0,.int .u8 x),(1,bySlice 8 c),(5,.pointer (some ⟨1,0,none⟩)),(7,.int .i64 0),(8,.map (some 16)),(9,.int .i64 0)]) (mkS (byH0 (byRow 8 y)))∧ ∀(o n N:Int) (r:Nat),(LoopJ Tryz.prog β (exB8 3 8 x c y) 8 (loopOf Tryz.prog 4 8) (byF8 3 8 (mOf x)) (mkS (byS 3 (byRow 8 y) 8 o n N r dustE))∧ ∀(o n N:Int) (r:Nat),True)):=by kernel_rfl
theorem byl3_9(x:Int)(c:Nat)(y:Nat→Int)(β:Bs):lawE Tryz.prog toldK 1000 50 β (fun _=>0) (cnOf 1 byLv) (exB8 3 9 x c y) 4 [.int .u8 x,bySlice 9 c] (mkS [some (byRow 9 y)]) trueE=(LoopJ Tryz.prog β (exB8 3 9 x c y) 0 (loopOf Tryz.prog 4 0) (mkF 198 [(0,.int .u8 x),(1,bySlice 9 c),(5,.pointer (some ⟨1,0,none⟩)),(7,.int .i64 0),(8,.map (some 16)),(9,.int .i64 0)]) (mkS (byH0 (byRow 9 y)))∧ ∀(o n N:Int) (r:Nat),(LoopJ Tryz.prog β (exB8 3 9 x c y) 8 (loopOf Tryz.prog 4 8) (byF8 3 9 (mOf x)) (mkS (byS 3 (byRow 9 y) 9 o n N r dustE))∧ ∀(o n N:Int) (r:Nat),True)):=by kernel_rfl
theorem byl3_10(x:Int)(c:Nat)(y:Nat→Int)(β:Bs):lawE Tryz.prog toldK 1000 50 β (fun _=>0) (cnOf 1 byLv) (exB8 3 10 x c y) 4 [.int .u8 x,bySlice 10 c] (mkS [some (byRow 10 y)]) trueE=(LoopJ Tryz.prog β (exB8 3 10 x c y) 0 (loopOf Tryz.prog 4 0) (mkF 198 [(0,.int .u8 x),(1,bySlice 10 c),(5,.pointer (some ⟨1,0,none⟩)),(7,.int .i64 0),(8,.map (some 16)),(9,.int .i64 0)]) (mkS (byH0 (byRow 10 y)))∧ ∀(o n N:Int) (r:Nat),(LoopJ Tryz.prog β (exB8 3 10 x c y) 8 (loopOf Tryz.prog 4 8) (byF8 3 10 (mOf x)) (mkS (byS 3 (byRow 10 y) 10 o n N r dustE))∧ ∀(o n N:Int) (r:Nat),True)):=by kernel_rfl
theorem byl4_0(x:Int)(c:Nat)(y:Nat→Int)(β:Bs):lawE Tryz.prog toldK 1000 50 β (fun _=>0) (cnOf 1 byLv) (exB8 4 0 x c y) 4 [.int .u8 x,bySlice 0 c] (mkS [some (byRow 0 y)]) trueE=(LoopJ Tryz.prog β (exB8 4 0 x c y) 0 (loopOf Tryz.prog 4 0) (mkF 198 [(0,.int .u8 x),(1,bySlice 0 c),(5,.pointer (some ⟨1,0,none⟩)),(7,.int .i64 0),(8,.map (some 16)),(9,.int .i64 0)]) (mkS (byH0 (byRow 0 y)))∧ ∀(o n N:Int) (r:Nat),(LoopJ Tryz.prog β (exB8 4 0 x c y) 8 (loopOf Tryz.prog 4 8) (byF8 4 0 (mOf x)) (mkS (byS 4 (byRow 0 y) 0 o n N r dustE))∧ ∀(o n N:Int) (r:Nat),True)):=by kernel_rfl
theorem byl4_1(x:Int)(c:Nat)(y:Nat→Int)(β:Bs):lawE Tryz.prog toldK 1000 50 β (fun _=>0) (cnOf 1 byLv) (exB8 4 1 x c y) 4 [.int .u8 x,bySlice 1 c] (mkS [some (byRow 1 y)]) trueE=(LoopJ Tryz.prog β (exB8 4 1 x c y) 0 (loopOf Tryz.prog 4 0) (mkF 198 [(0,.int .u8 x),(1,bySlice 1 c),(5,.pointer (some ⟨1,0,none⟩)),(7,.int .i64 0),(8,.map (some 16)),(9,.int .i64 0)]) (mkS (byH0 (byRow 1 y)))∧ ∀(o n N:Int) (r:Nat),(LoopJ Tryz.prog β (exB8 4 1 x c y) 8 (loopOf Tryz.prog 4 8) (byF8 4 1 (mOf x)) (mkS (byS 4 (byRow 1 y) 1 o n N r dustE))∧ ∀(o n N:Int) (r:Nat),True)):=by kernel_rfl
theorem byl4_2(x:Int)(c:Nat)(y:Nat→Int)(β:Bs):lawE Tryz.prog toldK 1000 50 β (fun _=>0) (cnOf 1 byLv) (exB8 4 2 x c y) 4 [.int .u8 x,bySlice 2 c] (mkS [some (byRow 2 y)]) trueE=(LoopJ Tryz.prog β (exB8 4 2 x c y) 0 (loopOf Tryz.prog 4 0) (mkF 198 [(0,.int .u8 x),(1,bySlice 2 c),(5,.pointer (some ⟨1,0,none⟩)),(7,.int .i64 0),(8,.map (some 16)),(9,.int .i64 0)]) (mkS (byH0 (byRow 2 y)))∧ ∀(o n N:Int) (r:Nat),(LoopJ Tryz.prog β (exB8 4 2 x c y) 8 (loopOf Tryz.prog 4 8) (byF8 4 2 (mOf x)) (mkS (byS 4 (byRow 2 y) 2 o n N r dustE))∧ ∀(o n N:Int) (r:Nat),True)):=by kernel_rfl
theorem byl4_3(x:Int)(c:Nat)(y:Nat→Int)(β:Bs):lawE Tryz.prog toldK 1000 50 β (fun _=>0) (cnOf 1 byLv) (exB8 4 3 x c y) 4 [.int .u8 x,bySlice 3 c] (mkS [some (byRow 3 y)]) trueE=(LoopJ Tryz.prog β (exB8 4 3 x c y) 0 (loopOf Tryz.prog 4 0) (mkF 198 [(0,.int .u8 x),(1,bySlice 3 c),(5,.pointer (some ⟨1,0,none⟩)),(7,.int .i64 0),(8,.map (some 16)),(9,.int .i64 0)]) (mkS (byH0 (byRow 3 y)))∧ ∀(o n N:Int) (r:Nat),(LoopJ Tryz.prog β (exB8 4 3 x c y) 8 (loopOf Tryz.prog 4 8) (byF8 4 3 (mOf x)) (mkS (byS 4 (byRow 3 y) 3 o n N r dustE))∧ ∀(o n N:Int) (r:Nat),True)):=by kernel_rfl
theorem byl4_4(x:Int)(c:Nat)(y:Nat→Int)(β:Bs):lawE Tryz.prog toldK 1000 50 β (fun _=>0) (cnOf 1 byLv) (exB8 4 4 x c y) 4 [.int .u8 x,bySlice 4 c] (mkS [some (byRow 4 y)]) trueE=(LoopJ Tryz.prog β (exB8 4 4 x c y) 0 (loopOf Tryz.prog 4 0) (mkF 198 [(0,.int .u8 x),(1,bySlice 4 c),(5,.pointer (some ⟨1,0,none⟩)),(7,.int .i64 0),(8,.map (some 16)),(9,.int .i64 0)]) (mkS (byH0 (byRow 4 y)))∧ ∀(o n N:Int) (r:Nat),(LoopJ Tryz.prog β (exB8 4 4 x c y) 8 (loopOf Tryz.prog 4 8) (byF8 4 4 (mOf x)) (mkS (byS 4 (byRow 4 y) 4 o n N r dustE))∧ ∀(o n N:Int) (r:Nat),True)):=by kernel_rfl
theorem byl4_5(x:Int)(c:Nat)(y:Nat→Int)(β:Bs):lawE Tryz.prog toldK 1000 50 β (fun _=>0) (cnOf 1 byLv) (exB8 4 5 x c y) 4 [.int .u8 x,bySlice 5 c] (mkS [some (byRow 5 y)]) trueE=(LoopJ Tryz.prog β (exB8 4 5 x c y) 0 (loopOf Tryz.prog 4 0) (mkF 198 [(0,.int .u8 x),(1,bySlice 5 c),(5,.pointer (some ⟨1,0,none⟩)),(7,.int .i64 0),(8,.map (some 16)),(9,.int .i64 0)]) (mkS (byH0 (byRow 5 y)))∧ ∀(o n N:Int) (r:Nat),(LoopJ Tryz.prog β (exB8 4 5 x c y) 8 (loopOf Tryz.prog 4 8) (byF8 4 5 (mOf x)) (mkS (byS 4 (byRow 5 y) 5 o n N r dustE))∧ ∀(o n N:Int) (r:Nat),True)):=by kernel_rfl
theorem byl4_6(x:Int)(c:Nat)(y:Nat→Int)(β:Bs):lawE Tryz.prog toldK 1000 50 β (fun _=>0) (cnOf 1 byLv) (exB8 4 6 x c y) 4 [.int .u8 x,bySlice 6 c] (mkS [some (byRow 6 y)]) trueE=(LoopJ Tryz.prog β (exB8 4 6 x c y) 0 (loopOf Tryz.prog 4 0) (mkF 198 [(0,.int .u8 x),(1,bySlice 6 c),(5,.pointer (some ⟨1,0,none⟩)),(7,.int .i64 0),(8,.map (some 16)),(9,.int .i64 0)]) (mkS (byH0 (byRow 6 y)))∧ ∀(o n N:Int) (r:Nat),(LoopJ Tryz.prog β (exB8 4 6 x c y) 8 (loopOf Tryz.prog 4 8) (byF8 4 6 (mOf x)) (mkS (byS 4 (byRow 6 y) 6 o n N r dustE))∧ ∀(o n N:Int) (r:Nat),True)):=by kernel_rfl
theorem byl4_7(x:Int)(c:Nat)(y:Nat→Int)(β:Bs):lawE Tryz.prog toldK 1000 50 β (fun _=>0) (cnOf 1 byLv) (exB8 4 7 x c y) 4 [.int .u8 x,bySlice 7 c] (mkS [some (byRow 7 y)]) trueE=(LoopJ Tryz.prog β (exB8 4 7 x c y) 0 (loopOf Tryz.prog 4 0) (mkF 198 [(0,.int .u8 x),(1,bySlice 7 c),(5,.pointer (some ⟨1,0,none⟩)),(7,.int .i64 0),(8,.map (some 16)),(9,.int .i64 0)]) (mkS (byH0 (byRow 7 y)))∧ ∀(o n N:Int) (r:Nat),(LoopJ Tryz.prog β (exB8 4 7 x c y) 8 (loopOf Tryz.prog 4 8) (byF8 4 7 (mOf x)) (mkS (byS 4 (byRow 7 y) 7 o n N r dustE))∧ ∀(o n N:Int) (r:Nat),True)):=by kernel_rfl
theorem byl4_8(x:Int)(c:Nat)(y:Nat→Int)(β:Bs):lawE Tryz.prog toldK 1000 50 β (fun _=>0) (cnOf 1 byLv) (exB8 4 8 x c y) 4 [.int .u8 x,bySlice 8 c] (mkS [some (byRow 8 y)]) trueE=(LoopJ Tryz.prog β (exB8 4 8 x c y) 0 (loopOf Tryz.prog 4 0) (mkF 198 [(0,.int .u8 x),(1,bySlice 8 c),(5,.pointer (some ⟨1,0,none⟩)),(7,.int .i64 0),(8,.map (some 16)),(9,.int .i64 0)]) (mkS (byH0 (byRow 8 y)))∧ ∀(o n N:Int) (r:Nat),(LoopJ Tryz.prog β (exB8 4 8 x c y) 8 (loopOf Tryz.prog 4 8) (byF8 4 8 (mOf x)) (mkS (byS 4 (byRow 8 y) 8 o n N r dustE))∧ ∀(o n N:Int) (r:Nat),True)):=by kernel_rfl
theorem byl4_9(x:Int)(c:Nat)(y:Nat→Int)(β:Bs):lawE Tryz.prog toldK 1000 50 β (fun _=>0) (cnOf 1 byLv) (exB8 4 9 x c y) 4 [.int .u8 x,bySlice 9 c] (mkS [some (byRow 9 y)]) trueE=(LoopJ Tryz.prog β (exB8 4 9 x c y) 0 (loopOf Tryz.prog 4 0) (mkF 198 [(0,.int .u8 x),(1,bySlice 9 c),(5,.pointer (some ⟨1,0,none⟩)),(7,.int .i64 0),(8,.map (some 16)),(9,.int .i64 0)]) (mkS (byH0 (byRow 9 y)))∧ ∀(o n N:Int) (r:Nat),(LoopJ Tryz.prog β (exB8 4 9 x c y) 8 (loopOf Tryz.prog 4 8) (byF8 4 9 (mOf x)) (mkS (byS 4 (byRow 9 y) 9 o n N r dustE))∧ ∀(o n N:Int) (r:Nat),True)):=by kernel_rfl
theorem byl4_10(x:Int)(c:Nat)(y:Nat→Int)(β:Bs):lawE Tryz.prog toldK 1000 50 β (fun _=>0) (cnOf 1 byLv) (exB8 4 10 x c y) 4 [.int .u8 x,bySlice 10 c] (mkS [some (byRow 10 y)]) trueE=(LoopJ Tryz.prog β (exB8 4 10 x c y) 0 (loopOf Tryz.prog 4 0) (mkF 198 [(0,.int .u8 x),(1,bySlice 10 c),(5,.pointer (some ⟨1,0,none⟩)),(7,.int .i64 0),(8,.map (some 16)),(9,.int .i64 0)]) (mkS (byH0 (byRow 10 y)))∧ ∀(o n N:Int) (r:Nat),(LoopJ Tryz.prog β (exB8 4 10 x c y) 8 (loopOf Tryz.prog 4 8) (byF8 4 10 (mOf x)) (mkS (byS 4 (byRow 10 y) 10 o n N r dustE))∧ ∀(o n N:Int) (r:Nat),True)):=by kernel_rfl
theorem byl5_0(x:Int)(c:Nat)(y:Nat→Int)(β:Bs):lawE Tryz.prog toldK 1000 50 β (fun _=>0) (cnOf 1 byLv) (exB8 5 0 x c y) 4 [.int .u8 x,bySlice 0 c] (mkS [some (byRow 0 y)]) trueE=(LoopJ Tryz.prog β (exB8 5 0 x c y) 0 (loopOf Tryz.prog 4 0) (mkF 198 [(0,.int .u8 x),(1,bySlice 0 c),(5,.pointer (some ⟨1,0,none⟩)),(7,.int .i64 0),(8,.map (some 16)),(9,.int .i64 0)]) (mkS (byH0 (byRow 0 y)))∧ ∀(o n N:Int) (r:Nat),(LoopJ Tryz.prog β (exB8 5 0 x c y) 8 (loopOf Tryz.prog 4 8) (byF8 5 0 (mOf x)) (mkS (byS 5 (byRow 0 y) 0 o n N r dustE))∧ ∀(o n N:Int) (r:Nat),True)):=by kernel_rfl
theorem byl5_1(x:Int)(c:Nat)(y:Nat→Int)(β:Bs):lawE Tryz.prog toldK 1000 50 β (fun _=>0) (cnOf 1 byLv) (exB8 5 1 x c y) 4 [.int .u8 x,bySlice 1 c] (mkS [some (byRow 1 y)]) trueE=(LoopJ Tryz.prog β (exB8 5 1 x c y) 0 (loopOf Tryz.prog 4 0) (mkF 198 [(0,.int .u8 x),(1,bySlice 1 c),(5,.pointer (some ⟨1,0,none⟩)),(7,.int .i64 0),(8,.map (some 16)),(9,.int .i64 0)]) (mkS (byH0 (byRow 1 y)))∧ ∀(o n N:Int) (r:Nat),(LoopJ Tryz.prog β (exB8 5 1 x c y) 8 (loopOf Tryz.prog 4 8) (byF8 5 1 (mOf x)) (mkS (byS 5 (byRow 1 y) 1 o n N r dustE))∧ ∀(o n N:Int) (r:Nat),True)):=by kernel_rfl
theorem byl5_2(x:Int)(c:Nat)(y:Nat→Int)(β:Bs):lawE Tryz.prog toldK 1000 50 β (fun _=>0) (cnOf 1 byLv) (exB8 5 2 x c y) 4 [.int .u8 x,bySlice 2 c] (mkS [some (byRow 2 y)]) trueE=(LoopJ Tryz.prog β (exB8 5 2 x c y) 0 (loopOf Tryz.prog 4 0) (mkF 198 [(0,.int .u8 x),(1,bySlice 2 c),(5,.pointer (some ⟨1,0,none⟩)),(7,.int .i64 0),(8,.map (some 16)),(9,.int .i64 0)]) (mkS (byH0 (byRow 2 y)))∧ ∀(o n N:Int) (r:Nat),(LoopJ Tryz.prog β (exB8 5 2 x c y) 8 (loopOf Tryz.prog 4 8) (byF8 5 2 (mOf x)) (mkS (byS 5 (byRow 2 y) 2 o n N r dustE))∧ ∀(o n N:Int) (r:Nat),True)):=by kernel_rfl
theorem byl5_3(x:Int)(c:Nat)(y:Nat→Int)(β:Bs):lawE Tryz.prog toldK 1000 50 β (fun _=>0) (cnOf 1 byLv) (exB8 5 3 x c y) 4 [.int .u8 x,bySlice 3 c] (mkS [some (byRow 3 y)]) trueE=(LoopJ Tryz.prog β (exB8 5 3 x c y) 0 (loopOf Tryz.prog 4 0) (mkF 198 [(0,.int .u8 x),(1,bySlice 3 c),(5,.pointer (some ⟨1,0,none⟩)),(7,.int .i64 0),(8,.map (some 16)),(9,.int .i64 0)]) (mkS (byH0 (byRow 3 y)))∧ ∀(o n N:Int) (r:Nat),(LoopJ Tryz.prog β (exB8 5 3 x c y) 8 (loopOf Tryz.prog 4 8) (byF8 5 3 (mOf x)) (mkS (byS 5 (byRow 3 y) 3 o n N r dustE))∧ ∀(o n N:Int) (r:Nat),True)):=by kernel_rfl
theorem byl5_4(x:Int)(c:Nat)(y:Nat→Int)(β:Bs):lawE Tryz.prog toldK 1000 50 β (fun _=>0) (cnOf 1 byLv) (exB8 5 4 x c y) 4 [.int .u8 x,bySlice 4 c] (mkS [some (byRow 4 y)]) trueE=(LoopJ Tryz.prog β (exB8 5 4 x c y) 0 (loopOf Tryz.prog 4 0) (mkF 198 [(0,.int .u8 x),(1,bySlice 4 c),(5,.pointer (some ⟨1,0,none⟩)),(7,.int .i64 0),(8,.map (some 16)),(9,.int .i64 0)]) (mkS (byH0 (byRow 4 y)))∧ ∀(o n N:Int) (r:Nat),(LoopJ Tryz.prog β (exB8 5 4 x c y) 8 (loopOf Tryz.prog 4 8) (byF8 5 4 (mOf x)) (mkS (byS 5 (byRow 4 y) 4 o n N r dustE))∧ ∀(o n N:Int) (r:Nat),True)):=by kernel_rfl
theorem byl5_5(x:Int)(c:Nat)(y:Nat→Int)(β:Bs):lawE Tryz.prog toldK 1000 50 β (fun _=>0) (cnOf 1 byLv) (exB8 5 5 x c y) 4 [.int .u8 x,bySlice 5 c] (mkS [some (byRow 5 y)]) trueE=(LoopJ Tryz.prog β (exB8 5 5 x c y) 0 (loopOf Tryz.prog 4 0) (mkF 198 [(0,.int .u8 x),(1,bySlice 5 c),(5,.pointer (some ⟨1,0,none⟩)),(7,.int .i64 0),(8,.map (some 16)),(9,.int .i64 0)]) (mkS (byH0 (byRow 5 y)))∧ ∀(o n N:Int) (r:Nat),(LoopJ Tryz.prog β (exB8 5 5 x c y) 8 (loopOf Tryz.prog 4 8) (byF8 5 5 (mOf x)) (mkS (byS 5 (byRow 5 y) 5 o n N r dustE))∧ ∀(o n N:Int) (r:Nat),True)):=by kernel_rfl
theorem byl5_6(x:Int)(c:Nat)(y:Nat→Int)(β:Bs):lawE Tryz.prog toldK 1000 50 β (fun _=>0) (cnOf 1 byLv) (exB8 5 6 x c y) 4 [.int .u8 x,bySlice 6 c] (mkS [some (byRow 6 y)]) trueE=(LoopJ Tryz.prog β (exB8 5 6 x c y) 0 (loopOf Tryz.prog 4 0) (mkF 198 [(0,.int .u8 x),(1,bySlice 6 c),(5,.pointer (some ⟨1,0,none⟩)),(7,.int .i64 0),(8,.map (some 16)),(9,.int .i64 0)]) (mkS (byH0 (byRow 6 y)))∧ ∀(o n N:Int) (r:Nat),(LoopJ Tryz.prog β (exB8 5 6 x c y) 8 (loopOf Tryz.prog 4 8) (byF8 5 6 (mOf x)) (mkS (byS 5 (byRow 6 y) 6 o n N r dustE))∧ ∀(o n N:Int) (r:Nat),True)):=by kernel_rfl
theorem byl5_7(x:Int)(c:Nat)(y:Nat→Int)(β:Bs):lawE Tryz.prog toldK 1000 50 β (fun _=>0) (cnOf 1 byLv) (exB8 5 7 x c y) 4 [.int .u8 x,bySlice 7 c] (mkS [some (byRow 7 y)]) trueE=(LoopJ Tryz.prog β (exB8 5 7 x c y) 0 (loopOf Tryz.prog 4 0) (mkF 198 [(0,.int .u8 x),(1,bySlice 7 c),(5,.pointer (some ⟨1,0,none⟩)),(7,.int .i64 0),(8,.map (some 16)),(9,.int .i64 0)]) (mkS (byH0 (byRow 7 y)))∧ ∀(o n N:Int) (r:Nat),(LoopJ Tryz.prog β (exB8 5 7 x c y) 8 (loopOf Tryz.prog 4 8) (byF8 5 7 (mOf x)) (mkS (byS 5 (byRow 7 y) 7 o n N r dustE))∧ ∀(o n N:Int) (r:Nat),True)):=by kernel_rfl
theorem byl5_8(x:Int)(c:Nat)(y:Nat→Int)(β:Bs):lawE Tryz.prog toldK 1000 50 β (fun _=>0) (cnOf 1 byLv) (exB8 5 8 x c y) 4 [.int .u8 x,bySlice 8 c] (mkS [some (byRow 8 y)]) trueE=(LoopJ Tryz.prog β (exB8 5 8 x c y) 0 (loopOf Tryz.prog 4 0) (mkF 198 [(0,.int .u8 x),(1,bySlice 8 c),(5,.pointer (some ⟨1,0,none⟩)),(7,.int .i64 0),(8,.map (some 16)),(9,.int .i64 0)]) (mkS (byH0 (byRow 8 y)))∧ ∀(o n N:Int) (r:Nat),(LoopJ Tryz.prog β (exB8 5 8 x c y) 8 (loopOf Tryz.prog 4 8) (byF8 5 8 (mOf x)) (mkS (byS 5 (byRow 8 y) 8 o n N r dustE))∧ ∀(o n N:Int) (r:Nat),True)):=by kernel_rfl
theorem byl5_9(x:Int)(c:Nat)(y:Nat→Int)(β:Bs):lawE Tryz.prog toldK 1000 50 β (fun _=>0) (cnOf 1 byLv) (exB8 5 9 x c y) 4 [.int .u8 x,bySlice 9 c] (mkS [some (byRow 9 y)]) trueE=(LoopJ Tryz.prog β (exB8 5 9 x c y) 0 (loopOf Tryz.prog 4 0) (mkF 198 [(0,.int .u8 x),(1,bySlice 9 c),(5,.pointer (some ⟨1,0,none⟩)),(7,.int .i64 0),(8,.map (some 16)),(9,.int .i64 0)]) (mkS (byH0 (byRow 9 y)))∧ ∀(o n N:Int) (r:Nat),(LoopJ Tryz.prog β (exB8 5 9 x c y) 8 (loopOf Tryz.prog 4 8) (byF8 5 9 (mOf x)) (mkS (byS 5 (byRow 9 y) 9 o n N r dustE))∧ ∀(o n N:Int) (r:Nat),True)):=by kernel_rfl
theorem byl5_10(x:Int)(c:Nat)(y:Nat→Int)(β:Bs):lawE Tryz.prog toldK 1000 50 β (fun _=>0) (cnOf 1 byLv) (exB8 5 10 x c y) 4 [.int .u8 x,bySlice 10 c] (mkS [some (byRow 10 y)]) trueE=(LoopJ Tryz.prog β (exB8 5 10 x c y) 0 (loopOf Tryz.prog 4 0) (mkF 198 [(0,.int .u8 x),(1,bySlice 10 c),(5,.pointer (some ⟨1,0,none⟩)),(7,.int .i64 0),(8,.map (some 16)),(9,.int .i64 0)]) (mkS (byH0 (byRow 10 y)))∧ ∀(o n N:Int) (r:Nat),(LoopJ Tryz.prog β (exB8 5 10 x c y) 8 (loopOf Tryz.prog 4 8) (byF8 5 10 (mOf x)) (mkS (byS 5 (byRow 10 y) 10 o n N r dustE))∧ ∀(o n N:Int) (r:Nat),True)):=by kernel_rfl
def ByLaw(m i:Nat):Prop:= ∀(x:Int) (c:Nat) (y:Nat→Int) (β:Bs),lawE Tryz.prog toldK 1000 50 β (fun _=>0) (cnOf 1 byLv) (exB8 m i x c y) 4 [.int .u8 x,bySlice i c] (mkS [some (byRow i y)]) trueE=(LoopJ Tryz.prog β (exB8 m i x c y) 0 (loopOf Tryz.prog 4 0) (mkF 198 [(0,.int .u8 x),(1,bySlice i c),(5,.pointer (some ⟨1,0,none⟩)),(7,.int .i64 0),(8,.map (some 16)),(9,.int .i64 0)]) (mkS (byH0 (byRow i y)))∧ ∀(o n N:Int) (r:Nat),(LoopJ Tryz.prog β (exB8 m i x c y) 8 (loopOf Tryz.prog 4 8) (byF8 m i (mOf x)) (mkS (byS m (byRow i y) i o n N r dustE))∧ ∀(o n N:Int) (r:Nat),True))
theorem byLaw1: ∀i:Nat,i≤10→ByLaw 1 i
 |0,_=>byl1_0
 |1,_=>byl1_1
 |2,_=>byl1_2
 |3,_=>byl1_3
 |4,_=>byl1_4
 |5,_=>byl1_5
 |6,_=>byl1_6
 |7,_=>byl1_7
 |8,_=>byl1_8
 |9,_=>byl1_9
 |10,_=>byl1_10
 |i+11,h=>absurd h (by omega)
theorem byLaw2: ∀i:Nat,i≤10→ByLaw 2 i
 |0,_=>byl2_0
 |1,_=>byl2_1
 |2,_=>byl2_2
 |3,_=>byl2_3
 |4,_=>byl2_4
 |5,_=>byl2_5
 |6,_=>byl2_6
 |7,_=>byl2_7
 |8,_=>byl2_8
 |9,_=>byl2_9
 |10,_=>byl2_10
 |i+11,h=>absurd h (by omega)
theorem byLaw3: ∀i:Nat,i≤10→ByLaw 3 i
 |0,_=>byl3_0
 |1,_=>byl3_1
 |2,_=>byl3_2
 |3,_=>byl3_3
 |4,_=>byl3_4
 |5,_=>byl3_5
 |6,_=>byl3_6
 |7,_=>byl3_7
 |8,_=>byl3_8
 |9,_=>byl3_9
 |10,_=>byl3_10
 |i+11,h=>absurd h (by omega)
theorem byLaw4: ∀i:Nat,i≤10→ByLaw 4 i
 |0,_=>byl4_0
 |1,_=>byl4_1
 |2,_=>byl4_2
 |3,_=>byl4_3
 |4,_=>byl4_4
 |5,_=>byl4_5
 |6,_=>byl4_6
 |7,_=>byl4_7
 |8,_=>byl4_8
 |9,_=>byl4_9
 |10,_=>byl4_10
 |i+11,h=>absurd h (by omega)
theorem byLaw5: ∀i:Nat,i≤10→ByLaw 5 i
 |0,_=>byl5_0
 |1,_=>byl5_1
 |2,_=>byl5_2
 |3,_=>byl5_3
 |4,_=>byl5_4
 |5,_=>byl5_5
 |6,_=>byl5_6
 |7,_=>byl5_7
 |8,_=>byl5_8
 |9,_=>byl5_9
 |10,_=>byl5_10
 |i+11,h=>absurd h (by omega)
theorem byLaw: ∀m i:Nat,1≤m→m≤5→i≤10→ByLaw m i
 |1,i,_,_,h=>byLaw1 i h
 |2,i,_,_,h=>byLaw2 i h
 |3,i,_,_,h=>byLaw3 i h
 |4,i,_,_,h=>byLaw4 i h
 |5,i,_,_,h=>byLaw5 i h
 |0,_,h,_,_=>absurd h (by omega)
 |m+6,_,_,h,_=>absurd h (by omega)
theorem byBig(x:Int)(c L:Nat)(y:Nat→Int)(β:Bs):lawE Tryz.prog toldK 1000 50 β (fun _=>0) (cnOf 1 byLv) (fun _ _=>True) 4 [.int .u8 x,bySlice L c] (mkS [some (byRow L y)]) trueE=br (decide (Int.ofNat L>10)) True (LoopJ Tryz.prog β (fun _ _=>True) 0 (loopOf Tryz.prog 4 0) (mkF 198 [(0,.int .u8 x),(1,bySlice L c),(5,.pointer (some ⟨1,0,none⟩)),(7,.int .i64 0),(8,.map (some 16)),(9,.int .i64 0)]) (mkS (byH0 (byRow L y)))∧True):=by kernel_rfl
end Go.Proofs.YtibobihgolfplaaGreatDoor.Ev
end
section
namespace Go.Proofs.YtibobihgolfplaaGreatDoor.Ev
open Go Go.Proofs Go.RowKit
structure U8 where
 v:Int
def u8E(a:U8)(_:Nat):Td:= .sc (.int .u8 a.v)
def u8D(c:Nat→Td):U8:=match c 0 with
 | .sc (.int .u8 a)=>⟨a⟩
 |_=>⟨0⟩
def u8Ok(c:Nat→Td):Bool:=match c 0 with
 | .sc (.int .u8 a)=>decide (0≤a)&&decide (a<256)
 |_=>false
theorem u8Ok_inv{c:Nat→Td}(h:u8Ok c=true):c 0= .sc (.int .u8 (u8D c).v)∧0≤(u8D c).v∧(u8D c).v<256:=by
 unfold u8Ok at h
 split at h
 ·rename_i a h0
  simp only[Bool.and_eq_true,decide_eq_true_eq]at h
  simp only[u8D,h0]
  exact⟨trivial,h.1,h.2⟩
 ·cases h
instance encU:Enc U8 where
 es:=1
 enc:=u8E
 dec:=u8D
 ok:=u8Ok
 dflt:=⟨0⟩
 good c:=u8Ok c=true
 okgood c h:=h
 law c h w F j y hj ht:=by
  have:j=0:=by omega
  subst this
  rw[(u8Ok_inv h).1]at ht
  exact ht
 back a:=rfl
 mrg a b w F j y hj:=⟨fun h=>h,fun h=>h⟩
def okU(b:U8):Bool:=decide (0≤b.v)&&decide (b.v<256)
theorem okA_u8(a:U8):okA U8 a=okU a:=rfl
theorem okU_iff(a:U8):okA U8 a=true↔0≤a.v∧a.v<256:=by
 rw[okA_u8];simp[okU]
def shU(_:Nat):Sh:= .int .u8
theorem goodU(c:Nat→Td)(h: ∀j,j<1→ShOk (shU j) (c j)):Enc.good U8 c:=by
 have h0:=h 0 (by omega)
 show u8Ok c=true
 unfold u8Ok
 revert h0
 cases c 0 with
 |fr=>intro h;exact h.elim
 |sc x=>
  cases x with
  |int k n=>
   intro h
   obtain⟨rfl,hw⟩:=h
   simp[Lit.wf,IntKind.min,IntKind.max,IntKind.signed,IntKind.bits]at hw
   show(decide (0≤n)&&decide (n<256))=true
   simp;omega
  |_=>intro h;exact h.elim
theorem goodU_all{t:Td}(h:goodT U8 t):(listT U8 t).all (okA U8)=true:=by
 rw[List.all_eq_true]
 refine goodT_all (p:=fun b=>okA U8 b=true) (fun c hc=> ?_) h
 have:=u8Ok_inv hc
 exact(okU_iff _).2 this.2
end Go.Proofs.YtibobihgolfplaaGreatDoor.Ev
end
section
namespace Go.Proofs.YtibobihgolfplaaGreatDoor.Ev
open Go Go.RowKit
theorem byF{m:Nat}(h1:1≤m)(h2:m≤5){i:Nat}(hi:i≤10)(L:Nat)(y:Nat→Int)(o n N:Int)(r:Nat)(Nx:Kt):pieceO Tryz.prog toldK 1 bySl9 [] [] (.loop (loopOf Tryz.prog 4 8)) (byF8 m i m) (mkS (byS m (byRow L y) i o n N r dustE)) Nx=Nx (.exit 8) (byF9 m i) (mkS (byE m (byRow L y) i o n N r dustE)):=by
 match m,h1,h2 with
 |1,_,_=>exact byf1 i hi L y o n N r Nx
 |2,_,_=>exact byf2 i hi L y o n N r Nx
 |3,_,_=>exact byf3 i hi L y o n N r Nx
 |4,_,_=>exact byf4 i hi L y o n N r Nx
 |5,_,_=>exact byf5 i hi L y o n N r Nx
theorem bySeen0{m:Nat}(h1:1≤m)(h2:m≤5){β:Bs}(hβ:β.X.length=1)(x:Int)(c L:Nat)(y:Nat→Int):Seen β (mkF 198 [(0,.int .u8 x),(1,bySlice L c),(5,.pointer (some ⟨1,0,none⟩)),(7,.int .i64 0),(8,.map (some 16)),(9,.int .i64 0)]) (mkS (byH0 (byRow L y))) (byFr m x (bySlice L c) 0) (mkS (byS m (byRow L y) 0 0 0 0 0 dustE)):=by
 have hd:=Seen.dustCell (β:=β) (f:=mkF 198 [(0,.int .u8 x),(1,bySlice L c),(5,.pointer (some ⟨1,0,none⟩)),(7,.int .i64 0),(8,.map (some 16)),(9,.int .i64 0)]) (l:=byH0 (byRow L y)) 1 21 14 8 1 1 (cs:=byH1) (cq:=byCl0) (ex:=true) (ek:=true) (eq:=0) (by omega) rfl rfl rfl (by kernel_rfl) (by show 1*8≤8;omega) (Nat.le_refl _) (by omega)
 match m,h1,h2 with
 |1,_,_=>exact hd.trans (Seen.canonD (E:=1) (slots:=[0,1,5,7,8,9]) hβ (fun K=>by kernel_rfl))
 |2,_,_=>exact hd.trans (Seen.canonD (E:=1) (slots:=[0,1,5,7,8,9]) hβ (fun K=>by kernel_rfl))
 |3,_,_=>exact hd.trans (Seen.canonD (E:=1) (slots:=[0,1,5,7,8,9]) hβ (fun K=>by kernel_rfl))
 |4,_,_=>exact hd.trans (Seen.canonD (E:=1) (slots:=[0,1,5,7,8,9]) hβ (fun K=>by kernel_rfl))
 |5,_,_=>exact hd.trans (Seen.canonD (E:=1) (slots:=[0,1,5,7,8,9]) hβ (fun K=>by kernel_rfl))
theorem mOf_eq{x:Int}(hx:0≤x): ∃m:Nat,1≤m∧m≤5∧mOf x=Int.ofNat m:=by
 refine⟨(x%5).toNat+1,by omega,by omega,?_⟩
 unfold mOf
 have e:IntKind.wrap .i64 (x%5)=x%5:=w64 (by omega) (by omega)
 rw[Int.tmod_eq_emod_of_nonneg hx,e,w64 (by omega) (by omega)]
 simp only[Int.ofNat_eq_natCast];omega
theorem gOf_eq{x:Int}(hx:0≤x):gOf x=1∨gOf x=2:=by
 unfold gOf
 have e:IntKind.wrap .i64 (x%2)=x%2:=w64 (by omega) (by omega)
 rw[Int.tmod_eq_emod_of_nonneg hx,e,w64 (by omega) (by omega)]
 omega
theorem by_law{x:Int}(hx:0≤x){l:List U8}{c:Nat}(hl:l.all (okA U8)=true)(w:World)(hgl:GlA w)(args':Array Value)(hA:PW (TR w (There w)) [Td.sc (.int .u8 x),tdL l c] args'.toList):
  Calls Tryz.prog 4 args' w fun e w'=>e= .returned (.bool true)∧Below w.heap.size w w':=by
 rcases Nat.lt_or_ge 10 l.length with hL|hL
 ·refine law_top (C:=toldK) (fuel:=1000) (n:=50) (un:=fun _=>0) (lvs:=byLv) (ex:=fun _ _=>True) follows toldK_ok (fun β hβ=> ?_) w args' hA hgl
  show lawE _ _ _ _ _ _ (cnOf 1 byLv) _ _ [.int .u8 x,bySlice l.length c] (mkS [some (byRow l.length fun i=>(l.getD i Enc.dflt).v)]) trueE
  rw[byBig]
  refine br_of (fun _=>trivial) (fun h=> ?_)
  simp at h;omega
 ·obtain⟨m,h1,h2,hm⟩:=mOf_eq hx
  have hy: ∀i,i<l.length→gOf ((fun i=>(l.getD i (Enc.dflt:U8)).v) i)=1∨gOf ((fun i=>(l.getD i (Enc.dflt:U8)).v) i)=2:=fun i hi=>by
   refine gOf_eq ?_
   rw[List.all_eq_true]at hl
   have:=hl (l.getD i Enc.dflt) (by rw[List.getD_eq_getElem?_getD,List.getElem?_eq_getElem hi];exact List.getElem_mem hi)
   exact((okU_iff _).1 this).1
  refine law_top (C:=toldK) (fuel:=1000) (n:=50) (un:=fun _=>0) (lvs:=byLv) (ex:=exB8 m l.length x c fun i=>(l.getD i Enc.dflt).v) follows toldK_ok (fun β hβ=> ?_) w args' hA hgl
  show lawE _ _ _ _ _ _ (cnOf 1 byLv) _ _ [.int .u8 x,bySlice l.length c] (mkS [some (byRow l.length fun i=>(l.getD i Enc.dflt).v)]) trueE
  rw[byLaw m l.length h1 h2 hL]
  generalize hyy:(fun i=>(l.getD i (Enc.dflt:U8)).v)=y at hy ⊢
  generalize l.length=L at hL hy ⊢
  refine⟨LoopJ.seen (bySeen0 h1 h2 hβ x c L y) (by_loop h1 h2 hL hm hy hβ fun K hK=>hK),fun o n N r=>⟨⟨fun K hK=> ?_⟩,fun _ _ _ _=>trivial⟩⟩
  have hK: ∀(o n N:Int) (r:Nat),K (.exit 8) (byF9 m L) (mkS (byE m (byRow L y) L o n N r dustE)):=hK
  rw[hm]
  have hβ1:β.X.length=1:=hβ
  refine pieceO_ok follows toldK_ok hβ1 (lv:=bySl9) (T:=[]) (os:=[]) ?_
  rw[show(Int.ofNat m)=(m:Int)from rfl,byF h1 h2 hL]
  exact hK o n N r
end Go.Proofs.YtibobihgolfplaaGreatDoor.Ev
end
