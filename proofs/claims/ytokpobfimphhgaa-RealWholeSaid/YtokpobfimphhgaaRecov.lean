/-
  A deferred function that begins with recover(): what is owed of it is one plain walk of what stands behind the recover. No function of the program is spoken of.
-/
import Derived.Test.YtokpobfimphhgaaRows
import Derived.WalkKit
import Derived.Defers
import Derived.Recover
namespace Go.Proofs.Ytokpobfimphhgaa
open Go.RowKit

section
variable {P : Program} {Q : Exit → Act → List Frame → World → Prop} {a : Act} {cs : List Frame} {w : World}

theorem wpS_region_recover {id : Nat} {o : Oper} {l : List Oper} {v : Value} {cs' : List Frame} (hg : o.guard = none) (hrun : (execOp a.eval o).run P w = .ok .recover w)
    (h0 : recoverD cs = some (v, cs') ∨ (recoverD cs = none ∧ v = .nilIface ∧ cs' = cs))
    {Q1 : Exit → Act → World → Prop} (hq : ∀ e a w, Q1 e a w → Q e a cs' w)
    (h : wpList P (o :: l).toArray Q1 l (a.put o.dst v) w) : (Code.region id (o :: l).toArray false).wpS P Q a cs w := by
  intro b k hb hr
  have h2 : wpOps P (o :: l).toArray Q1 (List.range' 1 l.length) (a.put o.dst v) w := by
    rw [wpOps_eq_wpList l 1 (by intro j; simp [Nat.add_comm 1 j])]
    exact h
  obtain ⟨e, a', w', q, r⟩ := wp_ops _ _ w h2 b k cs'
  have hrange : List.range (o :: l).toArray.size = 0 :: List.range' 1 l.length := by
    rw [List.range_eq_range']
    simp [List.range'_succ]
  refine ⟨e, a', cs', w', hq _ _ _ q, .of_steps (.one step_region) (.of_steps (.one (?_ : step P _ = .next _)) r)⟩
  rw [hrange]
  have ho : (o :: l).toArray[0]? = some o := rfl
  have hw : Region.wanted o (yielded (o :: l).toArray a.tmps) = true := by simp [Region.wanted, hg]
  have hst := stepG_op (P := P) (b := b) (k := k) (cs := cs) (w := w) (rest := List.range' 1 l.length) ho hw
  have hfin : ∀ u, (b.at a (.inRegion (o :: l).toArray (0 :: List.range' 1 l.length) :: k)).finish u = b.at (a.put o.dst u) (.inRegion (o :: l).toArray (List.range' 1 l.length) :: k) := by
    intro u; rw [Frame.finish_at, ho]; rfl
  refine step_lone_go ?_
  have hk : (b.at a (.inRegion (o :: l).toArray (0 :: List.range' 1 l.length) :: k)).kind = .deferred := hb
  have htr := tryRecover_deferred hk cs
  rw [hst, ← hfin]
  rcases h0 with hrec | ⟨hrec, rfl, rfl⟩
  · simp only [Frame.at] at htr ⊢
    simp [stepG.apply, hrun, htr, hrec]
  · simp only [Frame.at] at htr ⊢
    simp [stepG.apply, hrun, htr, hrec]

/-- A deferred function whose body is a region that begins with recover(), and more behind it. -/
theorem callsD_recover {f : FuncId} {fn : Func} {id : Nat} {o : Oper} {l : List Oper} {c2 : Code} {args : Array Value} {u u' : FrameMode} {v : Value} {w : World} {R : Ending → World → Prop}
    (hf : P.funcs[f]? = some fn) (hb : fn.body = some (.seq (.region id (o :: l).toArray false) c2)) (hg : o.guard = none) (hrun : ∀ ρ, (execOp ρ o).run P w = .ok .recover w)
    (h0 : (∃ older, u = .panicking ({ v, recovered := false } :: older) ∧ u' = .panicking ({ v, recovered := true } :: older)) ∨ (u = .returning ∧ u' = .returning ∧ v = .nilIface))
    (h : wpList P (o :: l).toArray (Exit.then (c2.wp P (bodyPost P fn R)) (bodyPost P fn R)) l (({ tmps := args ++ Array.replicate (fn.ntmps - args.size) undef, defers := [] } : Act).put o.dst v) w) :
    CallsD P f args u w fun e u'' w' => u'' = u' ∧ R e w' := by
  refine callsD_of_wpS hf hb fun c₀ cs hu => ?_
  apply wpS_seq
  refine wpS_region_recover (v := v) (cs' := { c₀ with mode := u' } :: cs) hg (hrun _) ?_ ?_ h
  · rcases h0 with ⟨older, rfl, rfl⟩ | ⟨rfl, rfl, rfl⟩
    · left
      simp [recoverD, hu]
    · right
      refine ⟨by simp [recoverD, hu], rfl, ?_⟩
      cases c₀
      simp_all
  · intro e a' w' hq
    have key : ∀ e a' w', bodyPost P fn R e a' w' → bodyPostS P fn c₀ cs (fun e u'' w' => u'' = u' ∧ R e w') e a' ({ c₀ with mode := u' } :: cs) w' := by
      intro e a' w' hq
      cases e <;> simp only [bodyPost, bodyPostS] at hq ⊢
      case normal => obtain ⟨h1, x, h2, h3⟩ := hq; exact ⟨h1, u', rfl, x, h2, rfl, h3⟩
      case ret => obtain ⟨h1, x, h2, h3⟩ := hq; exact ⟨h1, u', rfl, x, h2, rfl, h3⟩
      case panic => obtain ⟨h1, h2⟩ := hq; exact ⟨h1, u', rfl, rfl, h2⟩
      case outgrown => exact ⟨u', rfl, hq⟩
    cases e
    case normal => exact wpS_of_wp (Code.wp_mono (fun e a' w' => key e a' w') hq)
    case exit id => exact key (.exit id) a' w' hq
    case goto id => exact key (.goto id) a' w' hq
    case ret => exact key .ret a' w' hq
    case panic ch => exact key (.panic ch) a' w' hq
    case outgrown => exact key .outgrown a' w' hq
end
end Go.Proofs.Ytokpobfimphhgaa
