/-
  TopBrowse answers true, whatever its argument is.
-/
import Derived.Test.YtpbnlbbieaokoaaGreatDoorBrw0
import Derived.Test.YtpbnlbbieaokoaaGreatDoorBrw1
import Derived.Test.YtpbnlbbieaokoaaGreatDoorBrw2
set_option maxRecDepth 1000000
namespace Go.Proofs.YtpbnlbbieaokoaaGreatDoor.Ev
open Go Go.RowKit
theorem holds_nil : Holds [] := fun p hp => by cases hp
theorem holds_cons {v : Value} {q : Bool} {l : List (Value × Bool)} (h : v = .bool q) (hl : Holds l) : Holds ((v, q) :: l) := fun p hp => by
  rcases List.mem_cons.1 hp with rfl | hp
  · exact h
  · exact hl p hp
theorem browE_eq {x : Int} (hx : 0 ≤ x) (i : Nat) : browE x i = .bool (decide ((i : Int) < x % 3)) := by
  unfold browE
  have h1 : x.tmod 3 = x % 3 := Int.tmod_eq_emod_of_nonneg hx
  have h2 : IntKind.i64.wrap (x % 3) = x % 3 := wrapSm (by simp only [nlim]; omega) (by simp only [lim]; omega)
  rw [h1, h2, ltI_eq]
  rfl
theorem browT {x : Int} (hx : 0 ≤ x) {i : Nat} (h : (i : Int) < x % 3) : browE x i = .bool true := by
  rw [browE_eq hx, decide_eq_true h]
theorem browF {x : Int} (hx : 0 ≤ x) {i : Nat} (h : ¬ (i : Int) < x % 3) : browE x i = .bool false := by
  rw [browE_eq hx, decide_eq_false h]
theorem brow_law (x : Int) (hx : 0 ≤ x) (w : World) (hgl : GlA w) : Calls Tryz.prog 5 #[.int .u8 x] w fun e w' => e = .returned (.bool true) ∧ Below w.heap.size w w' := by
  have hg0 : (toldW0 5).isNone = true := by kernel_rfl
  have hg1 : (toldW1 5).isNone = true := by kernel_rfl
  have hg2 : (toldW2 5).isNone = true := by kernel_rfl
  have h : x % 3 = 0 ∨ x % 3 = 1 ∨ x % 3 = 2 := by omega
  rcases h with h | h | h
  · exact way_law follows toldW0_ok hg0 rfl (brow0 x) (holds_cons (browF hx (by omega)) (holds_cons (browF hx (by omega)) (holds_nil))) w hgl
  · exact way_law follows toldW1_ok hg1 rfl (brow1 x) (holds_cons (browT hx (by omega)) (holds_cons (browF hx (by omega)) (holds_cons (browT hx (by omega)) (holds_cons (browF hx (by omega)) (holds_nil))))) w hgl
  · exact way_law follows toldW2_ok hg2 rfl (brow2 x) (holds_cons (browT hx (by omega)) (holds_cons (browT hx (by omega)) (holds_cons (browF hx (by omega)) (holds_cons (browT hx (by omega)) (holds_cons (browT hx (by omega)) (holds_cons (browF hx (by omega)) (holds_nil))))))) w hgl
end Go.Proofs.YtpbnlbbieaokoaaGreatDoor.Ev
