/-
  Which cells fit a kind: told to the evaluator.
-/
import Derived.Test.YtaceobjppcmhjaaTmFV
import Derived.Test.YtaceobjppcmhjaaTmS
set_option linter.unusedVariables false
set_option linter.unusedSimpArgs false
set_option maxRecDepth 100000
namespace Go.Proofs.Ytaceobjppcmhjaa.Ev
open Go Go.Proofs Go.RowKit

def fitF (kind : Int) (_ : List Vl) : Bool := decide (6 ≤ kind) && decide (kind ≤ 8)
def okFit (ts : List Ta) : Bool := match ts with
  | [.cell (.sc (.int .i64 kind)), .cell t] => okT Vl t && timOk false kind (listT Vl t)
  | _ => false
def ansFit (ts : List Ta) : Ans := match ts with
  | [.cell (.sc (.int .i64 kind)), .cell t] => bAns (fitF kind (listT Vl t))
  | _ => .pan .nilIface
theorem kinds (kind : Int) : kind ≤ 0 ∨ (1 ≤ kind ∧ kind ≤ 5) ∨ kind = 6 ∨ kind = 7 ∨ kind = 8 ∨ kind = 9 ∨ kind = 10 ∨ kind = 11 ∨ kind = 12 ∨ 13 ≤ kind := by omega
theorem fit_told : ToldW Try.prog 20 okFit ansFit := by
  intro ts hok w args' F hF ha
  unfold okFit at hok
  split at hok
  · rename_i kind t
    simp only [Bool.and_eq_true] at hok
    obtain ⟨o1, o2⟩ := hok
    obtain ⟨h1, h2⟩ := okT_len o1
    obtain ⟨y1, m1, e1, k1, hm1⟩ := ha.uncons
    obtain ⟨y2, m2, rfl, k2, hm2⟩ := hm1.uncons
    have := hm2.nil_inv
    subst this
    have ha' : PW (TaR w F) [.cell (.sc (.int .i64 kind)), .cell (tdL (listT Vl t) (nilT t))] args'.toList := by
      rw [e1]; exact PW.cons k1 (PW.cons (okT_TRo o1 k2) (PW.nil _))
    refine toldW_at (ts := [.cell (.sc (.int .i64 kind)), .cell (tdL (listT Vl t) (nilT t))]) follows ⟨toldT, 100, 20, fun _ => 8, fun _ => [], fun _ _ => False, toldT_ok, fun β hβ => ?_⟩ w args' F hF ha'
    show lawE _ _ _ _ _ _ (cnOf 1 fun _ => []) _ _ [.int .i64 kind, .slice (some ⟨0, 0, some 0⟩) (listT Vl t).length (nilT t)] (mkS [some (rowO .look (listT Vl t))]) (ansE (bAns (fitF kind (listT Vl t))))
    generalize listT Vl t = l at *
    generalize nilT t = c at *
    have hK : ∀ b, fitF kind l = b → ansE (bAns (fitF kind l)) (.returned (.bool b)) st0 := fun b hb => by subst hb; exact bAns_ok _ _
    rw [bAns_any]
    generalize hKK : (fun r => ansE (bAns (fitF kind l)) r st0) = K
    have hT : fitF kind l = true → K (.returned (.bool true)) := fun h => by rw [← hKK]; exact hK true h
    have hFa : fitF kind l = false → K (.returned (.bool false)) := fun h => by rw [← hKK]; exact hK false h
    have hg : (fun (r : AE) (_ : ASt) => ansE (bAns (fitF kind l)) r st0) = fun r _ => K r := by rw [← hKK]
    rw [hg]
    clear hKK hg hK
    rcases timOk_cases o2 with ⟨q, et, on, a, rfl⟩ | ⟨h, _⟩
    · show lawE _ _ _ _ _ _ _ _ _ [.int .i64 kind, .slice (some ⟨0, 0, some 0⟩) 4 c] (mkS [some (rowO .look (l4 q et on a))]) _
      rw [vc_tfA]
      have fF : fitF kind (l4 q et on a) = (decide (6 ≤ kind) && decide (kind ≤ 8)) := rfl
      rw [fF] at hT hFa
      rcases kinds kind with h | h | rfl | rfl | rfl | rfl | rfl | rfl | rfl | h
      all_goals first
        | exact hT rfl
        | exact hFa rfl
        | (have f1 : decide (kind ≥ 6) = false := decide_eq_false (by omega)
           have f2 : decide (kind ≥ 1) = false := decide_eq_false (by omega)
           have f5 : (kind == 9) = false := beq_false_of_ne (by omega)
           have f6 : (kind == 10) = false := beq_false_of_ne (by omega)
           have f7 : (kind == 11) = false := beq_false_of_ne (by omega)
           have f8 : (kind == 12) = false := beq_false_of_ne (by omega)
           simp only [f1, f2, f5, f6, f7, f8, br_t, br_f]
           exact hFa (by simp; omega))
        | (have f1 : decide (kind ≥ 6) = false := decide_eq_false (by omega)
           have f2 : decide (kind ≥ 1) = true := decide_eq_true (by omega)
           have f4 : decide (kind ≤ 5) = true := decide_eq_true (by omega)
           have f5 : (kind == 9) = false := beq_false_of_ne (by omega)
           have f6 : (kind == 10) = false := beq_false_of_ne (by omega)
           have f7 : (kind == 11) = false := beq_false_of_ne (by omega)
           have f8 : (kind == 12) = false := beq_false_of_ne (by omega)
           simp only [f1, f2, f4, f5, f6, f7, f8, br_t, br_f]
           exact hFa (by simp; omega))
        | (have f1 : decide (kind ≥ 6) = true := decide_eq_true (by omega)
           have f2 : decide (kind ≥ 1) = true := decide_eq_true (by omega)
           have f3 : decide (kind ≤ 8) = true := decide_eq_true (by omega)
           have f4 : decide (kind ≤ 5) = false := decide_eq_false (by omega)
           have f5 : (kind == 9) = false := beq_false_of_ne (by omega)
           have f6 : (kind == 10) = false := beq_false_of_ne (by omega)
           have f7 : (kind == 11) = false := beq_false_of_ne (by omega)
           have f8 : (kind == 12) = false := beq_false_of_ne (by omega)
           simp only [f1, f2, f3, f4, f5, f6, f7, f8, br_t, br_f]
           exact hFa (by simp; omega))
        | (have f1 : decide (kind ≥ 6) = true := decide_eq_true (by omega)
           have f2 : decide (kind ≥ 1) = true := decide_eq_true (by omega)
           have f3 : decide (kind ≤ 8) = false := decide_eq_false (by omega)
           have f4 : decide (kind ≤ 5) = false := decide_eq_false (by omega)
           have f5 : (kind == 9) = false := beq_false_of_ne (by omega)
           have f6 : (kind == 10) = false := beq_false_of_ne (by omega)
           have f7 : (kind == 11) = false := beq_false_of_ne (by omega)
           have f8 : (kind == 12) = false := beq_false_of_ne (by omega)
           simp only [f1, f2, f3, f4, f5, f6, f7, f8, br_t, br_f]
           exact hFa (by simp; omega))
    · cases h
  · cases hok
def toldF : Told := toldT.tree 20 okFit ansFit
theorem toldF_ok : ToldS Try.prog toldF := Told.tree_ok toldT_ok fit_told
end Go.Proofs.Ytaceobjppcmhjaa.Ev
