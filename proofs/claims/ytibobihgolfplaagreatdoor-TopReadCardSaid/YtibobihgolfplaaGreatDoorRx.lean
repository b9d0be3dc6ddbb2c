/-
  What is told where frames are run as they stand.
-/
import Derived.Test.YtibobihgolfplaaGreatDoorJ4
set_option linter.unusedVariables false
set_option maxRecDepth 1000000
namespace Go.Proofs.YtibobihgolfplaaGreatDoor.Ev
open Go
noncomputable def toldX1:Told:=toldRe8.con toldV Tryz.prog 232
theorem toldX1_ok:ToldS Tryz.prog toldX1:=Told.con_ok follows toldRe8_ok toldV_ok
noncomputable def toldX2:Told:=toldX1.con toldV Tryz.prog 18
theorem toldX2_ok:ToldS Tryz.prog toldX2:=Told.con_ok follows toldX1_ok toldV_ok
noncomputable def toldX3:Told:=toldX2.con toldV Tryz.prog 19
theorem toldX3_ok:ToldS Tryz.prog toldX3:=Told.con_ok follows toldX2_ok toldV_ok
noncomputable def toldX:Told:=toldX3.asw Tryz.prog 8 [102] [false]
theorem toldX_ok:ToldS Tryz.prog toldX:=Told.asw_ok follows toldX3_ok
noncomputable def rdSxA(i sh k:Nat)(c L:Nat)(y:Nat→Int)(G:RdG)(h:Nat)(v:RdV)(Nx:Kt):Prop:=pieceO Tryz.prog toldX 1 rdLx [] [] rdSend (rdFs L c i (rdEnd i (i+1) 3 (rdShM sh k v))) (mkS (rdSv i (rdShM sh k v) G (oB k) (.ofNat k) (.ofNat k) (rB k) h dustE (rdRow L y))) Nx
noncomputable def RdSx(i sh k:Nat):Prop:= ∀(c L:Nat) (y:Nat→Int) (G:RdG) (h:Nat) (v:RdV) (Nx:Kt),rdSxA i sh k c L y G h v Nx=rdSeB i sh k c L y G h v Nx
noncomputable def RdSxL(i sh:Nat)(l:List Nat):Prop:= ∀(c L:Nat) (y:Nat→Int) (G:RdG) (h:Nat) (v:RdV) (Nx:Kt),l.map (fun k=>rdSxA i sh k c L y G h v Nx)=l.map (fun k=>rdSeB i sh k c L y G h v Nx)
theorem RdSxL.at{i sh:Nat}{l:List Nat}(hl:RdSxL i sh l){k:Nat}(hx:k∈l):RdSx i sh k:=fun c L y G h v Nx=>List.map_inj_left.1 (hl c L y G h v Nx) k hx
theorem rdsx6_1_11:RdSxL 6 1 [11]:=fun c L y G h v Nx=>by kernel_rfl
theorem rdsx7_1_13:RdSxL 7 1 [13]:=fun c L y G h v Nx=>by kernel_rfl
theorem rdsx9_1_16:RdSxL 9 1 [16]:=fun c L y G h v Nx=>by kernel_rfl
theorem rdsx10_1_18:RdSxL 10 1 [18]:=fun c L y G h v Nx=>by kernel_rfl
theorem rdsx11_1_19:RdSxL 11 1 [19]:=fun c L y G h v Nx=>by kernel_rfl
theorem rdsx11_1_20:RdSxL 11 1 [20]:=fun c L y G h v Nx=>by kernel_rfl
theorem rdsx6_2_11:RdSxL 6 2 [11]:=fun c L y G h v Nx=>by kernel_rfl
theorem rdsx7_2_13:RdSxL 7 2 [13]:=fun c L y G h v Nx=>by kernel_rfl
theorem rdsx9_2_16:RdSxL 9 2 [16]:=fun c L y G h v Nx=>by kernel_rfl
theorem rdsx10_2_18:RdSxL 10 2 [18]:=fun c L y G h v Nx=>by kernel_rfl
theorem rdsx11_2_19:RdSxL 11 2 [19]:=fun c L y G h v Nx=>by kernel_rfl
theorem rdsx11_2_20:RdSxL 11 2 [20]:=fun c L y G h v Nx=>by kernel_rfl
theorem rdsx6_3_11:RdSxL 6 3 [11]:=fun c L y G h v Nx=>by kernel_rfl
theorem rdsx7_3_13:RdSxL 7 3 [13]:=fun c L y G h v Nx=>by kernel_rfl
theorem rdsx9_3_16:RdSxL 9 3 [16]:=fun c L y G h v Nx=>by kernel_rfl
theorem rdsx10_3_18:RdSxL 10 3 [18]:=fun c L y G h v Nx=>by kernel_rfl
theorem rdsx11_3_19:RdSxL 11 3 [19]:=fun c L y G h v Nx=>by kernel_rfl
theorem rdsx11_3_20:RdSxL 11 3 [20]:=fun c L y G h v Nx=>by kernel_rfl
theorem rdsx6_4_11:RdSxL 6 4 [11]:=fun c L y G h v Nx=>by kernel_rfl
theorem rdsx7_4_13:RdSxL 7 4 [13]:=fun c L y G h v Nx=>by kernel_rfl
theorem rdsx9_4_16:RdSxL 9 4 [16]:=fun c L y G h v Nx=>by kernel_rfl
theorem rdsx10_4_18:RdSxL 10 4 [18]:=fun c L y G h v Nx=>by kernel_rfl
theorem rdsx11_4_19:RdSxL 11 4 [19]:=fun c L y G h v Nx=>by kernel_rfl
theorem rdsx11_4_20:RdSxL 11 4 [20]:=fun c L y G h v Nx=>by kernel_rfl
theorem rdsx6_5_11:RdSxL 6 5 [11]:=fun c L y G h v Nx=>by kernel_rfl
theorem rdsx7_5_13:RdSxL 7 5 [13]:=fun c L y G h v Nx=>by kernel_rfl
theorem rdsx9_5_16:RdSxL 9 5 [16]:=fun c L y G h v Nx=>by kernel_rfl
theorem rdsx10_5_18:RdSxL 10 5 [18]:=fun c L y G h v Nx=>by kernel_rfl
theorem rdsx11_5_19:RdSxL 11 5 [19]:=fun c L y G h v Nx=>by kernel_rfl
theorem rdsx11_5_20:RdSxL 11 5 [20]:=fun c L y G h v Nx=>by kernel_rfl
end Go.Proofs.YtibobihgolfplaaGreatDoor.Ev
