/-
  TopBlocks up to its loop, each number of late.
-/
import Derived.Test.YthajddbhjdkmnaaGreatDoorTkF
import Derived.Test.YthajddbhjdkmnaaGreatDoorGi
set_option maxRecDepth 1000000
set_option linter.unusedVariables false
namespace Go.Proofs.YthajddbhjdkmnaaGreatDoor.Ev
open Go
noncomputable section
def toldTn (k : Nat) : Told := toldB.pt 5 (tkArgs k) tkR (tkO (.ofNat k))
theorem toldTn_ok {k : Nat} (h : TkPt k) : ToldS Tryz.prog (toldTn k) := Told.pt_ok toldB_ok (by kernel_rfl) (by kernel_rfl) (pt_ok follows toldH_ok (by kernel_rfl) h)
def exT (L : Nat) (y : Nat → Nat → Int) : Nat → Kt → Prop := fun _ K => K (.exit 0) (mkF 169 []) (mkS [some (tkRow L y)])
def tkLaA (L c : Nat) (y : Nat → Nat → Int) (β : Bs) (p : Nat) : Prop := lawE Tryz.prog (toldTn (p % 100)) 1000 50 β (fun _ => 0) (cnOf 1 (fun _ => [0, 6, 9, 10, 11, 12, 13, 14])) (exT L y) 3 [tkSl L c, .int .u8 (.ofNat p)] (mkS [some (tkRow L y)]) trueE
def tkLaB (L c : Nat) (y : Nat → Nat → Int) (β : Bs) (p : Nat) : Prop := br (decide (Int.ofNat L > 25)) True (LoopJ Tryz.prog β (exT L y) 0 tkBody (tkFr (tkSl L c) (.ofNat (p % 100)) 0 0 0 false 0) (mkS (tkH0 (.ofNat (p % 100)) 0 (tkRow L y))) ∧ True)
def TkLaL (a n : Nat) : Prop := ∀ (L c : Nat) (y : Nat → Nat → Int) (β : Bs), (List.range' a n).map (tkLaA L c y β) = (List.range' a n).map (tkLaB L c y β)
theorem TkLaL.at {a n p : Nat} (h : TkLaL a n) (h1 : a ≤ p) (h2 : p < a + n) (L c : Nat) (y : Nat → Nat → Int) (β : Bs) : tkLaA L c y β p = tkLaB L c y β p := List.map_inj_left.1 (h L c y β) p (List.mem_range'_1.2 ⟨h1, h2⟩)
end
end Go.Proofs.YthajddbhjdkmnaaGreatDoor.Ev
