/-
  A law over data that came in, by what its code comes to.
-/
import Derived.Test.YtncndnlbiijdoaaEnc
set_option linter.unusedVariables false
set_option linter.unusedSimpArgs false
namespace Go.Proofs.Ytncndnlbiijdoaa.Ev
open Go Go.RowKit

def top1 (t : Td) (k : Nat) : Value × List AObj := match t with
  | .sc x => (x, [])
  | .fr es n c e => (.slice (some ⟨k, 0, some 0⟩) n c, [.row .still es 0 n e])
def tops : List Td → Nat → List Value × List AObj
  | [], _ => ([], [])
  | t :: l, k => ((top1 t k).1 :: (tops l (k + (top1 t k).2.length)).1, (top1 t k).2 ++ (tops l (k + (top1 t k).2.length)).2)
theorem top1_rel {w : World} {F : Nat → Prop} (hF : ∀ b, F b → b < w.heap.size) {t : Td} {y : Value} (h : TR w F t y) : ∃ S, (∀ k, LayR w F (top1 t k).2 S) ∧ ∀ X k, At X S k → VR (fun i => X[i]?) (top1 t k).1 y := by
  cases t with
  | sc x => exact ⟨[], fun k => LayR.nil w F, fun X k _ => VR.mono (noRho_sub _) h⟩
  | fr es n c e =>
    obtain ⟨s, h1, h2, h3, h4⟩ := arg_spot h hF
    refine ⟨[s], fun k => ⟨rfl, fun i s' o hs ho => ?_⟩, fun X k hX => h3 _ k s (hX 0 s rfl) (SameSpot.refl s)⟩
    cases i with
    | zero => cases hs; cases ho; exact ⟨h4, h2, h1⟩
    | succ i => cases hs
theorem tops_rel {w : World} {F : Nat → Prop} (hF : ∀ b, F b → b < w.heap.size) : ∀ {ts : List Td} {ys : List Value}, PW (TR w F) ts ys → ∃ S, (∀ k, LayR w F (tops ts k).2 S) ∧ ∀ X k, At X S k → VRL (fun i => X[i]?) (tops ts k).1 ys := by
  intro ts
  induction ts with
  | nil => intro ys h; have := h.nil_inv; subst this; exact ⟨[], fun k => LayR.nil w F, fun X k _ => VRL.nil _⟩
  | cons t ts ih =>
    intro ys h
    obtain ⟨y, m, rfl, hy, hm⟩ := h.uncons
    obtain ⟨S1, a1, a2⟩ := top1_rel hF hy
    obtain ⟨S2, b1, b2⟩ := ih hm
    refine ⟨S1 ++ S2, fun k => (a1 k).app (b1 _), fun X k hX => ?_⟩
    obtain ⟨h1, h2⟩ := hX.app
    rw [(a1 k).len] at h2
    exact VRL.cons (a2 X k h1) (b2 X _ h2)
theorem law_top {P : Program} {C : Told} {fuel n : Nat} {un : Nat → Nat} {lvs : Nat → List Nat} {ex : Nat → Kt → Prop} {g : FuncId} {ts : List Td} (hm : P.follows .mixedOrders = true) (hC : ToldS P C)
    (h : ∀ β : Bs, β.X.length = (tops ts 0).2.length → lawE P C fuel n β un (cnOf (tops ts 0).2.length lvs) ex g (tops ts 0).1 (mkS ((tops ts 0).2.map some)) trueE) (w : World) (args' : Array Value) (ha : PW (TR w (There w)) ts args'.toList) :
    Calls P g args' w fun e w' => e = .returned (.bool true) ∧ Below w.heap.size w w' := by
  obtain ⟨S, s1, s2⟩ := tops_rel (F := There w) (fun b hb => hb) ha
  have hlen := (s1 0).len
  have hv := s2 S 0 (fun i s hs => by rw [Nat.zero_add]; exact hs)
  have hl' := h ⟨w.heap.size, w, S, There w⟩ hlen
  rw [← hlen] at hl'
  refine (law_args (F := There w) hm hC w hlen (fun k s o h1 h2 => ((s1 0).ok k s o h1 h2).1 _ _) (fun s hs hvd => ?_) (fun s hs b hb => ?_) (fun b hb => hb) hv hl').mono fun e w' he => he.true
  · obtain ⟨i, hi⟩ := List.getElem?_of_mem hs
    have hil := (List.getElem?_eq_some_iff.1 hi).1
    exact ((s1 0).ok i s _ hi (List.getElem?_eq_getElem (by omega))).2.1 hvd
  · obtain ⟨i, hi⟩ := List.getElem?_of_mem hs
    have hil := (List.getElem?_eq_some_iff.1 hi).1
    have := ((s1 0).ok i s _ hi (List.getElem?_eq_getElem (by omega))).2.2
    rw [this] at hb; exact hb
/-- a slice that came in, as a row of data -/
theorem typed_arg {H : Type} {enc : TypeId × Value → H} {P : Program} {w : World} {t : TypeId} {v : Value} {d : DataW H} {ps : List MemPlace} {b0 : Nat} {α : Type} [Enc α] {sh : Nat → Sh} {e : TypeId} (hs : ∀ c : Nat → Td, (∀ j, j < Enc.es α → ShOk (sh j) (c j)) → Enc.good α c) (ht : P.underlying t = some (.slice e)) (hl : flatB P 9 t [.sl (Enc.es α) sh] = true)
    (hv : Value.okWide P w .any b0 t v) (h : DataW.Trod enc P w 0 (fun _ => true) true t v d ps) : ∃ u : Td, goodT α u ∧ TR w (There w) (tdL (listT α u) (nilT u)) v := by
  obtain ⟨n, cc, el, h1, h2⟩ := row_of_trod ht hl hv h
  have hg := goodT_of hs h2
  exact ⟨_, hg, goodT_TR hg h1⟩
end Go.Proofs.Ytncndnlbiijdoaa.Ev
