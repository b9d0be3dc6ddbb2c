/-
  mail.Add told to the evaluator.
-/
import Derived.Test.YtpejhdbllphdaaaMlAdV
set_option linter.unusedVariables false
set_option linter.unusedSimpArgs false
namespace Go.Proofs.Ytpejhdbllphdaaa.Ev
open Go Go.Proofs Go.RowKit

def okAdd (ts : List Ta) : Bool := match ts with
  | [.cell t, .agg [a, b, c, d]] => okT Wr t && (listT Wr t).all (okA Wr) && (intOk a && intOk b && okT Int c && okT Vl d)
  | _ => false
def addA (l : List Wr) (w : Wr) : Ans := .rets [.cell (ownL (addWr l w) 0), .cell (.sc (.int .i64 (addEr l)))]
def ansAdd (ts : List Ta) : Ans := match ts with
  | [.cell t, .agg [a, b, c, d]] => addA (listT Wr t) ⟨intD a, intD b, listT Int c, nilT c, listT Vl d, nilT d⟩
  | _ => .pan .nilIface
theorem add_law {l : List Wr} {w : Wr} {c : Nat} {β : Bs} (hl : l.length ≤ 1000000) (hc : c ≤ 1) (hok : l.all (okA Wr) = true) (hw : okA Wr w = true) :
    lawE Try.prog toldT 100 20 β (fun _ => 0) (cnOf 3 fun _ => []) (fun _ _ => False) 9 [.slice (some ⟨0, 0, some 0⟩) l.length c, argW w] (mkS [some (rowO .look l), some (rowO .look w.a), some (rowO .look w.v)]) (outR (ansE (addA l w))) := by
  obtain ⟨w1, w2, w3, w4⟩ := okA_wr_inv hw
  show lawE _ _ _ _ _ _ _ _ _ _ _ (outK fun r m => ∃ l2, objsR m l2 ∧ ansE (addA l w) r (mkS l2))
  rw [vc_add l w]
  have t1 : listT Wr (Td.fr 4 l.length c (encL l)) = l := listT_tdL l c
  have p1 : ok1 Wr (fun l _ => l.all (okA Wr)) [Ta.cell (Td.fr 4 l.length c (encL l))] = true := by
    show (okT Wr (tdL l c) && (listT Wr (tdL l c)).all (okA Wr)) = true
    rw [okT_tdL hok hl hc, listT_tdL, hok]; rfl
  simp only [encZ, Nat.zero_add, bleS, p1, t1, okC_of w2 w1, okC_of w4 w3, Bool.true_and, need_t]
  refine br_of (fun q => ?_) (fun q => need_of ?_ ?_)
  · have q : 3 ≤ l.length := by simp at q; omega
    refine ⟨_, outAt (k := 5) rfl rfl (fun _ _ _ h => h), ⟨_, [5], rfl, ⟨[5], [], rfl, ?_, [], [], rfl, ⟨rfl, ?_, rfl⟩, rfl⟩, by simp⟩⟩
    · rw [show addWr l w = l by simp [addWr, q]]
      exact own_at (by simp) rfl (fun h => by omega)
    · simp [addEr, q]
  · have q : ¬ 3 ≤ l.length := by simp at q; omega
    exact Nat.ble_eq_true_of_le (by omega)
  · have q : ¬ 3 ≤ l.length := by simp at q; omega
    refine ⟨_, outAt (k := 15) (o2 := rowO .mine (l ++ [w])) rfl rfl (fun ρ s w' h => ?_), ⟨_, [15], rfl, ⟨[15], [], rfl, ?_, [], [], rfl, ⟨rfl, ?_, rfl⟩, rfl⟩, by simp⟩⟩
    · refine row_app (es := 4) (n := l.length) (g := fun i j => encL l i j) (ts := _) rfl rfl (fun i j => rfl) (fun j hj => ?_) (by simpa only [Nat.zero_add] using h)
      match j, hj with
      | 0, _ => rfl
      | 1, _ => rfl
      | 2, _ => rfl
      | 3, _ => rfl
    · rw [show addWr l w = l ++ [w] by simp [addWr, q]]
      exact own_at (by simp) (by simp) (fun h => by omega)
    · simp [addEr, q]
theorem add_told : ToldW Try.prog 9 okAdd ansAdd := by
  intro ts hok w args' F hF ha
  unfold okAdd at hok
  split at hok
  · rename_i t a b c d
    simp only [Bool.and_eq_true] at hok
    obtain ⟨⟨o1, o2⟩, ⟨⟨o3, o4⟩, o5⟩, o6⟩ := hok
    obtain ⟨y, m, e, hy, hm'⟩ := ha.uncons
    obtain ⟨z, m', rfl, hz, hm2⟩ := hm'.uncons
    have := hm2.nil_inv
    subst this
    obtain ⟨arr, rfl, hz⟩ := hz
    obtain ⟨h1, h2⟩ := okT_len o1
    obtain ⟨h3, h4⟩ := okT_len o5
    obtain ⟨h5, h6⟩ := okT_len o6
    have hz' : PW (TRo w F) [.sc (.int .i64 (intD a)), .sc (.int .i64 (intD b)), tdL (listT Int c) (nilT c), tdL (listT Vl d) (nilT d)] arr.toList := by
      obtain ⟨y1, m1, e1, k1, hm1⟩ := hz.uncons
      obtain ⟨y2, m2, rfl, k2, hm2⟩ := hm1.uncons
      obtain ⟨y3, m3, rfl, k3, hm3⟩ := hm2.uncons
      obtain ⟨y4, m4, rfl, k4, hm4⟩ := hm3.uncons
      rw [e1]
      refine PW.cons (by rw [← intOk_inv o3]; exact k1) (PW.cons (by rw [← intOk_inv o4]; exact k2) (PW.cons (okT_TRo o5 k3) (PW.cons (okT_TRo o6 k4) ?_)))
      rw [hm4.nil_inv]; exact PW.nil _
    have ha' : PW (TaR w F) [.cell (tdL (listT Wr t) (nilT t)), .agg [.sc (.int .i64 (intD a)), .sc (.int .i64 (intD b)), tdL (listT Int c) (nilT c), tdL (listT Vl d) (nilT d)]] args'.toList := by rw [e]; exact PW.cons (okT_TRo o1 hy) (PW.cons ⟨arr, rfl, hz'⟩ (PW.nil _))
    refine toldW_out (ts := [.cell (tdL (listT Wr t) (nilT t)), .agg [.sc (.int .i64 (intD a)), .sc (.int .i64 (intD b)), tdL (listT Int c) (nilT c), tdL (listT Vl d) (nilT d)]]) follows ⟨toldT, 100, 20, fun _ => 0, fun _ => [], fun _ _ => False, toldT_ok, fun β hβ => ?_⟩ w args' F hF ha'
    refine add_law (l := listT Wr t) (w := ⟨intD a, intD b, listT Int c, nilT c, listT Vl d, nilT d⟩) h1 h2 o2 ?_
    exact okA_wr h4 h3 h6 h5
  · cases hok
noncomputable def toldD : Told := toldM.tree 9 okAdd ansAdd
theorem toldD_ok : ToldS Try.prog toldD := Told.tree_ok toldM_ok add_told
end Go.Proofs.Ytpejhdbllphdaaa.Ev
