/-
  TopDrop answers true, whatever its arguments are.
-/
import Derived.Test.YtpbnlbbieaokoaaGreatDoorDr0f
import Derived.Test.YtpbnlbbieaokoaaGreatDoorDr0t
import Derived.Test.YtpbnlbbieaokoaaGreatDoorDr1f
import Derived.Test.YtpbnlbbieaokoaaGreatDoorDr1t
import Derived.Test.YtpbnlbbieaokoaaGreatDoorDr2f
import Derived.Test.YtpbnlbbieaokoaaGreatDoorDr2t
import Derived.Test.YtpbnlbbieaokoaaGreatDoorDr3f
import Derived.Test.YtpbnlbbieaokoaaGreatDoorDr3t
import Derived.Test.YtpbnlbbieaokoaaGreatDoorDr4f
import Derived.Test.YtpbnlbbieaokoaaGreatDoorDr4t
import Derived.Test.YtpbnlbbieaokoaaGreatDoorDr5f
import Derived.Test.YtpbnlbbieaokoaaGreatDoorDr5t
import Derived.Test.YtpbnlbbieaokoaaGreatDoorDr6f
import Derived.Test.YtpbnlbbieaokoaaGreatDoorDr6t
import Derived.Test.YtpbnlbbieaokoaaGreatDoorDr7f
import Derived.Test.YtpbnlbbieaokoaaGreatDoorDr7t
import Derived.Test.YtpbnlbbieaokoaaGreatDoorDr8f
import Derived.Test.YtpbnlbbieaokoaaGreatDoorDr8t
import Derived.Test.YtpbnlbbieaokoaaGreatDoorDr9f
import Derived.Test.YtpbnlbbieaokoaaGreatDoorDr9t
set_option maxRecDepth 1000000
namespace Go.Proofs.YtpbnlbbieaokoaaGreatDoor.Ev
open Go Go.RowKit
theorem holds_nil : Holds [] := fun p hp => by cases hp
theorem holds_cons {v : Value} {q : Bool} {l : List (Value × Bool)} (h : v = .bool q) (hl : Holds l) : Holds ((v, q) :: l) := fun p hp => by
  rcases List.mem_cons.1 hp with rfl | hp
  · exact h
  · exact hl p hp
theorem dwayE_eq {x : Int} (hx : 0 ≤ x) (i : Nat) : dropE x i = .bool (decide ((i : Int) < x % 10)) := by
  unfold dropE
  have h1 : x.tmod 10 = x % 10 := Int.tmod_eq_emod_of_nonneg hx
  have h2 : IntKind.i64.wrap (x % 10) = x % 10 := wrapSm (by simp only [nlim]; omega) (by simp only [lim]; omega)
  rw [h1, h2, ltI_eq]
  rfl
theorem dwayT {x : Int} (hx : 0 ≤ x) {i : Nat} (h : (i : Int) < x % 10) : dropE x i = .bool true := by
  rw [dwayE_eq hx, decide_eq_true h]
theorem dwayF {x : Int} (hx : 0 ≤ x) {i : Nat} (h : ¬ (i : Int) < x % 10) : dropE x i = .bool false := by
  rw [dwayE_eq hx, decide_eq_false h]
theorem drop_law (x : Int) (hx : 0 ≤ x) (b : Bool) (w : World) (hgl : GlA w) : Calls Tryz.prog 6 #[.int .u8 x, .bool b] w fun e w' => e = .returned (.bool true) ∧ Below w.heap.size w w' := by
  have hg : (toldV 6).isNone = true := by kernel_rfl
  have h : x % 10 = 0 ∨ x % 10 = 1 ∨ x % 10 = 2 ∨ x % 10 = 3 ∨ x % 10 = 4 ∨ x % 10 = 5 ∨ x % 10 = 6 ∨ x % 10 = 7 ∨ x % 10 = 8 ∨ x % 10 = 9 := by omega
  rcases h with h | h | h | h | h | h | h | h | h | h
  · cases b with
    | false => exact way_law follows toldV_ok hg rfl (drop0f x) (holds_cons (dwayF hx (by omega)) holds_nil) w hgl
    | true => exact way_law follows toldV_ok hg rfl (drop0t x) (holds_cons (dwayF hx (by omega)) holds_nil) w hgl
  · cases b with
    | false => exact way_law follows toldV_ok hg rfl (drop1f x) (holds_cons (dwayT hx (by omega)) (holds_cons (dwayF hx (by omega)) holds_nil)) w hgl
    | true => exact way_law follows toldV_ok hg rfl (drop1t x) (holds_cons (dwayT hx (by omega)) (holds_cons (dwayF hx (by omega)) holds_nil)) w hgl
  · cases b with
    | false => exact way_law follows toldV_ok hg rfl (drop2f x) (holds_cons (dwayT hx (by omega)) (holds_cons (dwayT hx (by omega)) (holds_cons (dwayF hx (by omega)) holds_nil))) w hgl
    | true => exact way_law follows toldV_ok hg rfl (drop2t x) (holds_cons (dwayT hx (by omega)) (holds_cons (dwayT hx (by omega)) (holds_cons (dwayF hx (by omega)) holds_nil))) w hgl
  · cases b with
    | false => exact way_law follows toldV_ok hg rfl (drop3f x) (holds_cons (dwayT hx (by omega)) (holds_cons (dwayT hx (by omega)) (holds_cons (dwayT hx (by omega)) (holds_cons (dwayF hx (by omega)) holds_nil)))) w hgl
    | true => exact way_law follows toldV_ok hg rfl (drop3t x) (holds_cons (dwayT hx (by omega)) (holds_cons (dwayT hx (by omega)) (holds_cons (dwayT hx (by omega)) (holds_cons (dwayF hx (by omega)) holds_nil)))) w hgl
  · cases b with
    | false => exact way_law follows toldV_ok hg rfl (drop4f x) (holds_cons (dwayT hx (by omega)) (holds_cons (dwayT hx (by omega)) (holds_cons (dwayT hx (by omega)) (holds_cons (dwayT hx (by omega)) (holds_cons (dwayF hx (by omega)) holds_nil))))) w hgl
    | true => exact way_law follows toldV_ok hg rfl (drop4t x) (holds_cons (dwayT hx (by omega)) (holds_cons (dwayT hx (by omega)) (holds_cons (dwayT hx (by omega)) (holds_cons (dwayT hx (by omega)) (holds_cons (dwayF hx (by omega)) holds_nil))))) w hgl
  · cases b with
    | false => exact way_law follows toldV_ok hg rfl (drop5f x) (holds_cons (dwayT hx (by omega)) (holds_cons (dwayT hx (by omega)) (holds_cons (dwayT hx (by omega)) (holds_cons (dwayT hx (by omega)) (holds_cons (dwayT hx (by omega)) (holds_cons (dwayF hx (by omega)) holds_nil)))))) w hgl
    | true => exact way_law follows toldV_ok hg rfl (drop5t x) (holds_cons (dwayT hx (by omega)) (holds_cons (dwayT hx (by omega)) (holds_cons (dwayT hx (by omega)) (holds_cons (dwayT hx (by omega)) (holds_cons (dwayT hx (by omega)) (holds_cons (dwayF hx (by omega)) holds_nil)))))) w hgl
  · cases b with
    | false => exact way_law follows toldV_ok hg rfl (drop6f x) (holds_cons (dwayT hx (by omega)) (holds_cons (dwayT hx (by omega)) (holds_cons (dwayT hx (by omega)) (holds_cons (dwayT hx (by omega)) (holds_cons (dwayT hx (by omega)) (holds_cons (dwayT hx (by omega)) (holds_cons (dwayF hx (by omega)) holds_nil))))))) w hgl
    | true => exact way_law follows toldV_ok hg rfl (drop6t x) (holds_cons (dwayT hx (by omega)) (holds_cons (dwayT hx (by omega)) (holds_cons (dwayT hx (by omega)) (holds_cons (dwayT hx (by omega)) (holds_cons (dwayT hx (by omega)) (holds_cons (dwayT hx (by omega)) (holds_cons (dwayF hx (by omega)) holds_nil))))))) w hgl
  · cases b with
    | false => exact way_law follows toldV_ok hg rfl (drop7f x) (holds_cons (dwayT hx (by omega)) (holds_cons (dwayT hx (by omega)) (holds_cons (dwayT hx (by omega)) (holds_cons (dwayT hx (by omega)) (holds_cons (dwayT hx (by omega)) (holds_cons (dwayT hx (by omega)) (holds_cons (dwayT hx (by omega)) (holds_cons (dwayF hx (by omega)) holds_nil)))))))) w hgl
    | true => exact way_law follows toldV_ok hg rfl (drop7t x) (holds_cons (dwayT hx (by omega)) (holds_cons (dwayT hx (by omega)) (holds_cons (dwayT hx (by omega)) (holds_cons (dwayT hx (by omega)) (holds_cons (dwayT hx (by omega)) (holds_cons (dwayT hx (by omega)) (holds_cons (dwayT hx (by omega)) (holds_cons (dwayF hx (by omega)) holds_nil)))))))) w hgl
  · cases b with
    | false => exact way_law follows toldV_ok hg rfl (drop8f x) (holds_cons (dwayT hx (by omega)) (holds_cons (dwayT hx (by omega)) (holds_cons (dwayT hx (by omega)) (holds_cons (dwayT hx (by omega)) (holds_cons (dwayT hx (by omega)) (holds_cons (dwayT hx (by omega)) (holds_cons (dwayT hx (by omega)) (holds_cons (dwayT hx (by omega)) (holds_cons (dwayF hx (by omega)) holds_nil))))))))) w hgl
    | true => exact way_law follows toldV_ok hg rfl (drop8t x) (holds_cons (dwayT hx (by omega)) (holds_cons (dwayT hx (by omega)) (holds_cons (dwayT hx (by omega)) (holds_cons (dwayT hx (by omega)) (holds_cons (dwayT hx (by omega)) (holds_cons (dwayT hx (by omega)) (holds_cons (dwayT hx (by omega)) (holds_cons (dwayT hx (by omega)) (holds_cons (dwayF hx (by omega)) holds_nil))))))))) w hgl
  · cases b with
    | false => exact way_law follows toldV_ok hg rfl (drop9f x) (holds_cons (dwayT hx (by omega)) (holds_cons (dwayT hx (by omega)) (holds_cons (dwayT hx (by omega)) (holds_cons (dwayT hx (by omega)) (holds_cons (dwayT hx (by omega)) (holds_cons (dwayT hx (by omega)) (holds_cons (dwayT hx (by omega)) (holds_cons (dwayT hx (by omega)) (holds_cons (dwayT hx (by omega)) (holds_cons (dwayF hx (by omega)) holds_nil)))))))))) w hgl
    | true => exact way_law follows toldV_ok hg rfl (drop9t x) (holds_cons (dwayT hx (by omega)) (holds_cons (dwayT hx (by omega)) (holds_cons (dwayT hx (by omega)) (holds_cons (dwayT hx (by omega)) (holds_cons (dwayT hx (by omega)) (holds_cons (dwayT hx (by omega)) (holds_cons (dwayT hx (by omega)) (holds_cons (dwayT hx (by omega)) (holds_cons (dwayT hx (by omega)) (holds_cons (dwayF hx (by omega)) holds_nil)))))))))) w hgl
end Go.Proofs.YtpbnlbbieaokoaaGreatDoor.Ev
