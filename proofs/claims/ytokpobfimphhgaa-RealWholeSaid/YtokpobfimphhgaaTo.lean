/-
  Functions of a row, of which it is told what they answer: a row of its own, or a number.
-/
import Derived.Test.YtokpobfimphhgaaIn
set_option linter.unusedVariables false
set_option linter.unusedSimpArgs false
namespace Go.Proofs.Ytokpobfimphhgaa.Ev
open Go Go.RowKit

def scalC : Value → Bool
  | .int .. | .bool _ | .float .. | .string _ => true
  | _ => false
theorem VR.scalB {ρ ρ' : Rho} {v v' : Value} (hs : scalC v = true) (h : VR ρ v v') : VR ρ' v v' := by
  cases h with
  | bool b => exact .bool b
  | int k n => exact .int k n
  | float k b => exact .float k b
  | nan k b b' h h' => exact .nan k b b' h h'
  | string s => exact .string s
  | any => cases hs
  | _ => cases hs
def allS (n : Nat) (f : Nat → List Value) : Bool := (List.range n).all fun j => (f j).all scalC
theorem allS_of {n : Nat} {f : Nat → List Value} (h : ∀ j, (f j).all scalC = true) : allS n f = true := by
  unfold allS
  rw [List.all_eq_true]
  exact fun j _ => h j
theorem allS_at {n : Nat} {f : Nat → List Value} (h : allS n f = true) {j : Nat} (hj : j < n) : (f j).all scalC = true := by
  unfold allS at h
  rw [List.all_eq_true] at h
  exact h j (List.mem_range.2 hj)
/-- an object of what was made -/
theorem Mv.gain {ρ : Rho} {g : Mem} {w w' : World} {n : Nat} (h : WR ρ g w) (hf : ρ n = none) (hb : Below w.heap.size w w') (o : AObj) (how : o.isOwn = true) (s : Spot) (hs : s.void = false → w.heap.size ≤ s.blk ∧ s.blk < w'.heap.size) (ho : ObjR (upd ρ n (some s)) o s w') :
    Mv ρ (upd ρ n (some s)) g (upd g n (some o)) n (n + 1) w w' := by
  have hsub : Sub ρ (upd ρ n (some s)) := Sub.upd s hf
  obtain ⟨h1, h2, h3, h4, hh⟩ := hb
  refine ⟨by omega, hsub, fun a t e => ?_, h4, fun b hb _ => hh b hb, fun b hb => ?_, h1, h2, h3, ⟨fun a t e hv => ?_, fun a o' e => ?_, fun a b oa ob sa sb ea eb eo ra rb va vb heq => ?_⟩, fun a o' e => ?_, fun a o' e ho' => ?_⟩
  · by_cases ha : a = n
    · exact .inr (by omega)
    · rw [upd_ne _ _ ha] at e; exact .inl e
  · obtain ⟨a, o', s', e1, e0, e2, e4, e3⟩ := hb
    by_cases ha : a = n
    · subst ha; rw [upd_same] at e2; cases e2; left; have := hs e4; omega
    · rw [upd_ne _ _ ha] at e1 e2; exact .inr ⟨a, o', s', e1, e0, e2, e4, e3⟩
  · by_cases ha : a = n
    · subst ha; rw [upd_same] at e; cases e; exact (hs hv).2
    · rw [upd_ne _ _ ha] at e; have := h.blk a t e hv; omega
  · by_cases ha : a = n
    · subst ha; rw [upd_same] at e; cases e; exact ⟨s, upd_same _ _ _, ho⟩
    · rw [upd_ne _ _ ha] at e
      obtain ⟨s', e1, e2⟩ := h.obj a o' e
      exact ⟨s', by rw [upd_ne _ _ ha]; exact e1, e2.kept hsub (fun hv => hh _ (h.blk a s' e1 hv))⟩
  · by_cases ha : a = n
    · by_cases hb : b = n
      · omega
      · subst ha
        rw [upd_same] at ra; cases ra
        rw [upd_ne _ _ hb] at rb
        have := h.blk b sb rb vb
        have := hs va
        omega
    · by_cases hb : b = n
      · subst hb
        rw [upd_same] at rb; cases rb
        rw [upd_ne _ _ ha] at ra
        have := h.blk a sa ra va
        have := hs vb
        omega
      · rw [upd_ne _ _ ha] at ra ea; rw [upd_ne _ _ hb] at rb eb
        exact h.inj a b oa ob sa sb ea eb eo ra rb va vb heq
  · by_cases ha : a = n
    · exact .inr (by omega)
    · rw [upd_ne _ _ ha] at e; exact .inl ⟨o', e⟩
  · by_cases ha : a = n
    · subst ha; rw [upd_same] at e; cases e; rw [how] at ho'; cases ho'
    · rw [upd_ne _ _ ha] at e; exact e
/-- a row that is only read, alone in memory -/
def rowS (es lo hi : Nat) (f : Nat → List Value) : ASt := mkS [some (.row false es lo hi f)]
theorem rowS_get {es lo hi : Nat} {f : Nat → List Value} {k : Nat} {o : AObj} (h : (rowS es lo hi f).h.get k = some o) : k = 0 ∧ o = .row false es lo hi f := by
  unfold rowS at h
  rw [mkS_get] at h
  cases k with
  | zero => simp at h; exact ⟨rfl, h.symm⟩
  | succ k => simp at h
/-- the part of a memory that a slice shows, alone -/
theorem small {ρ : Rho} {g : Mem} {w : World} {b0 i0 n c es lo m : Nat} {own : Bool} {f : Nat → List Value} {x : Value} (hw : WR ρ g w) (hg : g b0 = some (.row own es lo m f)) (h1 : lo ≤ i0) (h2 : i0 + n ≤ m) (hs : allS n (fun j => f (i0 + j)) = true) (hx : VR ρ (.slice (some ⟨b0, 0, some i0⟩) n c) x) :
    ∃ s, (s.void = false → s.blk < w.heap.size) ∧ WR (fun i => if i = 0 then some s else none) (rowS es i0 (i0 + n) f).h.get w ∧ VR (fun i => if i = 0 then some s else none) (.slice (some ⟨0, 0, some i0⟩) n c) x ∧ (c ≠ 0 → 0 < n ∨ (c = 1 ∧ x = .slice none 0 0)) := by
  obtain ⟨s, e1, f1, f2, f3, f4⟩ := hw.obj _ _ hg
  refine ⟨s, fun hv => hw.blk b0 s e1 hv, ⟨fun a t e hv => ?_, fun a o e => ?_, fun a b oa ob sa sb ea eb eo => ?_⟩, ?_, ?_⟩
  · split at e
    · cases e; exact hw.blk b0 s e1 hv
    · cases e
  · obtain ⟨rfl, rfl⟩ := rowS_get e
    refine ⟨s, rfl, f1, fun hv => ?_, (fun h => by cases h), fun i k1 k2 => ⟨(f4 i (by omega) (by omega)).1, fun j u hu => ?_⟩⟩
    · have := f2 hv; omega
    · obtain ⟨y, y1, y2, y3⟩ := (f4 i (by omega) (by omega)).2 j u hu
      have h5 := allS_at hs (j := i - i0) (by omega)
      rw [show i0 + (i - i0) = i by omega] at h5
      rw [List.all_eq_true] at h5
      exact ⟨y, y1, y2, VR.scalB (h5 u (List.mem_of_getElem? hu)) y3⟩
  · obtain ⟨rfl, rfl⟩ := rowS_get ea
    obtain ⟨rfl, rfl⟩ := rowS_get eb
    intros; rfl
  · cases hx with
    | sliceI _ _ s' _ _ c' o' hsx hn hc hr hv ho => rw [e1] at hsx; cases hsx; exact .sliceI 0 i0 s _ _ c' o' rfl hn hc hr hv ho
    | sliceE _ _ c' x s' hsx hex => rw [e1] at hsx; cases hsx; exact .sliceE 0 i0 c' x s rfl hex
    | sliceN => exact .sliceN _ _
    | sliceZ _ _ x => exact .sliceZ _ _ x
  · cases hx with
    | sliceI _ _ s' _ _ c' o' hs hn hc hr hv ho => exact fun h => .inl (hc h)
    | sliceE => exact fun h => absurd rfl h
    | sliceN => exact fun _ => .inr ⟨rfl, rfl⟩
    | sliceZ => exact fun h => absurd rfl h
/-- slices.Clone -/
def cloneC (es : Nat) : TCon where
  run args st := match args with
    | [.slice (some ⟨b0, 0, some i0⟩) n c] => match st.h.get b0 with
      | some (.row _ es' lo m f) => cond (Nat.beq es' es) (cond (Nat.ble lo i0 && Nat.ble (i0 + n) m) (cond (Nat.ble n 1000000) (cond (allS n fun j => f (i0 + j))
          (.ok (.returned (.slice (some ⟨st.next, 0, some 0⟩) n c), st.new (.row true es 0 n fun j => f (i0 + j)))) (.er "clone")) (.er "clone")) (.er "clone")) (.er "clone")
      | _ => .er "clone"
    | _ => .er "clone"
  sym args st K := match args with
    | [.slice (some ⟨b0, 0, some i0⟩) n c] => match st.h.get b0 with
      | some (.row _ es' lo m f) => cond (Nat.beq es' es) (need (Nat.ble lo i0 && Nat.ble (i0 + n) m) (need (Nat.ble n 1000000) (need (allS n fun j => f (i0 + j))
          (K (.returned (.slice (some ⟨st.next, 0, some 0⟩) n c)) (st.new (.row true es 0 n fun j => f (i0 + j))))))) False
      | _ => False
    | _ => False
  ok args st K h := by
    split at h
    · rename_i b0 i0 n c
      split at h
      · rename_i own es' lo m f hg
        cases he : Nat.beq es' es with
        | false => rw [he] at h; exact h.elim
        | true =>
          rw [he] at h
          obtain ⟨h1, h⟩ := need_elim h
          obtain ⟨h2, h⟩ := need_elim h
          obtain ⟨h3, h⟩ := need_elim h
          exact ⟨_, _, by simp only [hg, he, h1, h2, h3, cond_true], h⟩
      · exact h.elim
    · exact h.elim
def Told.with (C : Told) (g : FuncId) (c : TCon) : Told := fun f => cond (Nat.beq f g) (some c) (C f)
def ToldG (P : Program) (g : FuncId) (c : TCon) : Prop := ∀ args st r st', Wf st → c.run args st = .ok (r, st') → LoS st st' ∧ ∀ ρ w (args' : Array Value), VRL ρ args args'.toList → WR ρ st.h.get w → Fresh ρ st.next st'.next →
  Calls P g args' w fun e w' => ∃ ρ', EndR ρ' r e ∧ Mv ρ ρ' st.h.get st'.h.get st.next st'.next w w'
theorem Told.with_ok {P : Program} {C : Told} {g : FuncId} {c : TCon} (hC : ToldS P C) (h : ToldG P g c) : ToldS P (C.with g c) := by
  intro f d hd args st r st' hwf hr
  unfold Told.with at hd
  cases hb : Nat.beq f g with
  | false => rw [hb] at hd; exact hC f d hd args st r st' hwf hr
  | true =>
    rw [hb] at hd
    have := Nat.eq_of_beq_eq_true hb
    subst this
    simp only [cond_true, Option.some.injEq] at hd
    subst hd
    exact h args st r st' hwf hr
def cloneK (es n c : Nat) (f : Nat → List Value) (r : AE) (st : ASt) : Prop := ((Nat.beq n 0 && Nat.beq c 1) = true ∧ r = .returned (.slice none 0 0)) ∨ ((Nat.beq n 0 && Nat.beq c 1) = false ∧ r = .returned (.slice (some ⟨2, 0, some 0⟩) n 0) ∧ st.h.get 2 = some (.row true es 0 n f))
theorem clone_told {P : Program} {g : FuncId} {es : Nat} (hm : P.follows .mixedOrders = true)
    (hk : ∀ (i0 n c : Nat) (f : Nat → List Value), n ≤ 1000000 → funK P noTold 100 20 g [.slice (some ⟨0, 0, some i0⟩) n c] (rowS es i0 (i0 + n) f) (cloneK es n c fun j => f (i0 + j))) : ToldG P g (cloneC es) := by
  intro args st r st' hwf hr
  simp only [cloneC] at hr
  split at hr
  · rename_i b0 i0 n c
    split at hr
    · rename_i own es' lo m f hg
      obtain ⟨c1, hr⟩ := cond_ok hr
      obtain ⟨c2, hr⟩ := cond_ok hr
      obtain ⟨c3, hr⟩ := cond_ok hr
      obtain ⟨c4, hr⟩ := cond_ok hr
      cases hr
      have := Nat.eq_of_beq_eq_true c1
      subst this
      simp only [Bool.and_eq_true] at c2
      have k1 := Nat.le_of_ble_eq_true c2.1
      have k2 := Nat.le_of_ble_eq_true c2.2
      refine ⟨LoS.new _ _, fun ρ w args' ha hw hfr => ?_⟩
      obtain ⟨x, l, e1, hx, hl⟩ := ha.uncons
      have := hl.nil_inv
      subst this
      obtain ⟨s, s1, s2, s3, s4⟩ := small hw hg k1 k2 c4 hx
      obtain ⟨r, st1, q1, q2⟩ := funK_ok P noTold 100 20 g _ _ _ (hk i0 n c f (Nat.le_of_ble_eq_true c3))
      have hwf0 : Wf (rowS es' i0 (i0 + n) f) := fun k o e => by obtain ⟨rfl, _⟩ := rowS_get e; exact Nat.zero_lt_one
      obtain ⟨q3, q4⟩ := evFunC_sound hm (noTold_ok P) 100 20 g _ _ _ st1 hwf0 q1
      have hargs : args' = #[x] := by
        have : args'.toList = #[x].toList := e1
        exact Array.toList_inj.1 this
      subst hargs
      refine (q4 _ w #[x] (VRL.cons s3 (VRL.nil _)) s2 (fun a h1 h2 => if_neg (by have : 1 ≤ a := h1; omega))).mono fun e w' he => ?_
      obtain ⟨ρ', he, hmv⟩ := he
      have hbel : Below w.heap.size w w' := ⟨hmv.os, hmv.tape, hmv.output, hmv.size, fun k hk => hmv.frm k hk fun ⟨a, o, t, e1, e2, _⟩ => by obtain ⟨rfl, rfl⟩ := rowS_get e1; cases e2⟩
      have hfn : ρ st.next = none := hfr _ (Nat.le_refl _) (Nat.lt_succ_self _)
      have hgg : (st.new (.row true es' 0 n fun j => f (i0 + j))).h.get = upd st.h.get st.next (some (.row true es' 0 n fun j => f (i0 + j))) := by simp [ASt.new, set_get]
      have hvoid : n = 0 → Mv ρ (upd ρ st.next (some ⟨0, 0, false, es', 0, true⟩)) st.h.get (st.new (.row true es' 0 n fun j => f (i0 + j))).h.get st.next (st.next + 1) w w' := by
        intro h0
        rw [hgg]
        exact Mv.gain hw hfn hbel _ rfl _ (fun h => by cases h) ⟨rfl, fun _ => by omega, fun _ => ⟨rfl, rfl, fun h => by cases h⟩, fun i _ hi => by omega⟩
      rcases q2 with ⟨h0, rfl⟩ | ⟨h0, rfl, hst⟩
      · obtain ⟨v', rfl, hv'⟩ := he
        cases hv'
        simp only [Bool.and_eq_true] at h0
        have hn0 : n = 0 := Nat.eq_of_beq_eq_true h0.1
        have hc1 : c = 1 := Nat.eq_of_beq_eq_true h0.2
        refine ⟨_, ⟨_, rfl, ?_⟩, hvoid hn0⟩
        subst hn0 hc1
        exact .sliceN _ _
      · obtain ⟨v', rfl, hv'⟩ := he
        have hcn : c ≠ 0 → 0 < n := fun h => by
          rcases s4 h with h5 | ⟨h5, _⟩
          · exact h5
          · rcases Nat.eq_zero_or_pos n with h6 | h6
            · subst h6 h5; cases h0
            · exact h6
        obtain ⟨t, t1, t2, t3, t4, t5⟩ := hmv.wr.obj 2 _ hst
        have hwf1 := q3.wf hwf0
        refine ⟨upd ρ st.next (some t), ⟨v', rfl, ?_⟩, ?_⟩
        · have t4' := t4 rfl
          cases hv' with
          | sliceI _ _ s' _ _ c' o' hs hn hc hr hv ho => rw [t1] at hs; cases hs; exact .sliceI _ 0 t _ _ c' o' (upd_same _ _ _) hn hcn hr hv ho
          | sliceE _ _ c' x s' hs hex => rw [t1] at hs; cases hs; rw [t4'.1] at hex; cases hex
          | sliceZ _ _ x =>
            have hc0 : c = 0 := by
              rcases Nat.eq_zero_or_pos c with h6 | h6
              · exact h6
              · exact absurd (hcn (by omega)) (by simp)
            rw [hc0]; exact .sliceZ _ _ x
        · rw [hgg]
          refine Mv.gain hw hfn hbel _ rfl t (fun hv => ⟨?_, hmv.wr.blk 2 t t1 hv⟩) ⟨t2, t3, fun _ => t4 rfl, fun i k3 k4 => ⟨(t5 i k3 k4).1, fun j u hu => ?_⟩⟩
          · rcases hmv.own t.blk ⟨2, _, t, hst, rfl, t1, hv, rfl⟩ with h5 | ⟨a, o, t', e1, e2, _⟩
            · exact h5
            · obtain ⟨rfl, rfl⟩ := rowS_get e1; cases e2
          · obtain ⟨y, y1, y2, y3⟩ := (t5 i k3 k4).2 j u hu
            have h5 := allS_at c4 (j := i) k4
            rw [List.all_eq_true] at h5
            exact ⟨y, y1, y2, VR.scalB (h5 u (List.mem_of_getElem? hu)) y3⟩
    · cases hr
  · cases hr
theorem clone_of {es i0 n c : Nat} {f : Nat → List Value} {X : Prop} {K : AE → ASt → Prop} (h : X = br ((Nat.beq n 0 && Nat.beq c 1) == true) (K (.returned (.slice none 0 0)) (rowS es i0 (i0 + n) f)) (need (Nat.ble i0 i0 && Nat.ble (i0 + n) (i0 + n)) (need (Nat.ble (0 + n) 1000000)
    (K (.returned (.slice (some ⟨2, 0, some 0⟩) n 0)) (ASt.new (ASt.new (rowS es i0 (i0 + n) f) (.cells [] true 0)) (.row true es 0 n fun j => f (i0 + j))))))) (hn : n ≤ 1000000)
    (h1 : (Nat.beq n 0 && Nat.beq c 1) = true → K (.returned (.slice none 0 0)) (rowS es i0 (i0 + n) f))
    (h2 : (Nat.beq n 0 && Nat.beq c 1) = false → K (.returned (.slice (some ⟨2, 0, some 0⟩) n 0)) (ASt.new (ASt.new (rowS es i0 (i0 + n) f) (.cells [] true 0)) (.row true es 0 n fun j => f (i0 + j)))) : X := by
  rw [h]
  refine br_of (fun e => h1 (by simpa using e)) (fun e => need_of ?_ (need_of ?_ (h2 (by simpa using e))))
  · simp
  · simpa using hn
theorem clone_mem {es i0 n : Nat} {f g : Nat → List Value} : (ASt.new (ASt.new (rowS es i0 (i0 + n) f) (.cells [] true 0)) (.row true es 0 n g)).h.get 2 = some (.row true es 0 n g) := by
  simp only [ASt.new, set_get]
  exact upd_same _ _ _
end Go.Proofs.Ytokpobfimphhgaa.Ev
