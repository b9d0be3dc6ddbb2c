/-
  A function told at one place: what it answers there was looked up once, and is laid with new numbers wherever it is called.
-/
import Derived.Test.YtpogcoolgnjejaaGreatDoorEvX
import Derived.Test.YtpogcoolgnjejaaGreatDoorStC
set_option linter.unusedVariables false
set_option linter.unusedSimpArgs false
namespace Go.Proofs.YtpogcoolgnjejaaGreatDoor.Ev
open Go Go.RowKit

/-! ### names of one's own, and what they stand for -/
abbrev Lk := Nat → Option Nat
def bkA (μ : Lk) (a : Addr) (K : Addr → Value) : Value := match μ a.block with
  | some i => K ⟨i, a.off, a.spot⟩
  | none => bad
def bk (μ : Lk) : Value → Value
  | .bool b => .bool b
  | .int k n => .int k n
  | .float k b => .float k b
  | .string s => .string s
  | .pointer none => .pointer none
  | .pointer (some a) => bkA μ a fun a => .pointer (some a)
  | .slice none 0 0 => .slice none 0 0
  | .slice (some a) n c => bkA μ a fun a => .slice (some a) n c
  | .map none => .map none
  | .map (some r) => match μ r with
    | some i => .map (some i)
    | none => bad
  | .nilFunc => .nilFunc
  | .nilIface => .nilIface
  | _ => bad
def bkV (μ : Lk) : Value → Value
  | .agg vs => .agg ⟨vs.toList.map (bk μ)⟩
  | .tuple vs => .tuple ⟨vs.toList.map (bk μ)⟩
  | v => bk μ v
def bkE (μ : Lk) : AE → AE
  | .returned v => .returned (bkV μ v)
  | .panicked v => .panicked v
structure Like (s t : Spot) : Prop where
  blk : t.blk = s.blk
  base : t.base = s.base
  ex : t.ex = s.ex
  es : t.es = s.es
  room : t.room = s.room
  void : t.void = s.void
/-- names of one memory, of another one, for the same places -/
structure LkR (μ ν : Lk) (ρ ρ' : Rho) : Prop where
  dom : ∀ i a, ν i = some a → ∃ x, μ i = some x
  at_ : ∀ (i x a : Nat) (s : Spot), μ i = some x → ν i = some a → ρ x = some s → ∃ t, ρ' a = some t ∧ Like s t
theorem bk_VR {μ ν : Lk} {ρ ρ' : Rho} (H : LkR μ ν ρ ρ') {v y : Value} (h : VR ρ (bk μ v) y) : VR ρ' (bk ν v) y := by
  cases v with
  | bool b => simp only [bk] at h ⊢; cases h; exact .bool b
  | int k n => simp only [bk] at h ⊢; cases h; exact .int k n
  | float k b => simp only [bk] at h ⊢; cases h with
    | float => exact .float k b
    | nan _ _ b' h1 h2 => exact .nan k b b' h1 h2
  | string s => simp only [bk] at h ⊢; cases h; exact .string s
  | nilFunc => simp only [bk] at h ⊢; cases h; exact .nilFunc
  | nilIface => simp only [bk] at h ⊢; cases h; exact .nilIface
  | pointer p =>
    cases p with
    | none => simp only [bk] at h ⊢; cases h; exact .ptrNil
    | some a =>
      simp only [bk, bkA] at h ⊢
      cases hn : ν a.block with
      | none => exact .any _
      | some a' =>
        obtain ⟨x, hx⟩ := H.dom _ _ hn
        rw [hx] at h
        simp only at h ⊢
        obtain ⟨ab, ao, asp⟩ := a
        simp only at h hx hn ⊢
        cases h with
        | ptr _ o s hs =>
          obtain ⟨t, h1, h2⟩ := H.at_ _ _ _ _ hx hn hs
          have := VR.ptr (ρ := ρ') a' ao t h1
          rw [h2.blk, h2.base] at this; exact this
        | ptrI _ j i s hs =>
          obtain ⟨t, h1, h2⟩ := H.at_ _ _ _ _ hx hn hs
          have := VR.ptrI (ρ := ρ') a' ao i t h1
          rw [h2.blk, h2.base, h2.es] at this; exact this
  | slice p n c =>
    cases p with
    | none =>
      cases n with
      | zero => cases c with
        | zero => simp only [bk] at h ⊢; cases h; exact .sliceNil
        | succ c => exact .any _
      | succ n => exact .any _
    | some a =>
      simp only [bk, bkA] at h ⊢
      cases hn : ν a.block with
      | none => exact .any _
      | some a' =>
        obtain ⟨x, hx⟩ := H.dom _ _ hn
        rw [hx] at h
        simp only at h ⊢
        obtain ⟨ab, ao, asp⟩ := a
        simp only at h hx hn ⊢
        cases h with
        | slice _ o s _ _ c' o' hs hnc hc hxx hr ho =>
          obtain ⟨t, h1, h2⟩ := H.at_ _ _ _ _ hx hn hs
          have := VR.slice (ρ := ρ') a' ao t n c c' o' h1 hnc hc (by rw [h2.ex]; exact hxx) (by rw [h2.ex, h2.es, h2.room]; exact hr) (by rw [h2.base]; exact ho)
          rw [h2.blk] at this; exact this
        | sliceI _ i s _ _ c' o' hs hnc hc hr hv ho =>
          obtain ⟨t, h1, h2⟩ := H.at_ _ _ _ _ hx hn hs
          have := VR.sliceI (ρ := ρ') a' i t n c c' o' h1 hnc hc (by rw [h2.ex, h2.es, h2.room]; exact hr) (by rw [h2.void]; exact hv) (by rw [h2.base, h2.es]; exact ho)
          rw [h2.blk] at this; exact this
        | sliceE _ i c' x' s hs hxx =>
          obtain ⟨t, h1, h2⟩ := H.at_ _ _ _ _ hx hn hs
          exact .sliceE a' i c' x' t h1 (by rw [h2.ex]; exact hxx)
        | sliceN => exact .sliceN _ _
        | sliceZ => exact .sliceZ _ _ _
        | sliceX => exact .sliceX _ _ _
  | map p =>
    cases p with
    | none => simp only [bk] at h ⊢; cases h; exact .mapNil
    | some r =>
      simp only [bk] at h ⊢
      cases hn : ν r with
      | none => exact .any _
      | some a' =>
        obtain ⟨x, hx⟩ := H.dom _ _ hn
        rw [hx] at h
        simp only at h ⊢
        cases h with
        | map _ s hs =>
          obtain ⟨t, h1, h2⟩ := H.at_ _ _ _ _ hx hn hs
          have := VR.map (ρ := ρ') a' t h1
          rw [h2.blk] at this; exact this
  | _ => exact .any _
theorem bkV_VR {μ ν : Lk} {ρ ρ' : Rho} (H : LkR μ ν ρ ρ') {v y : Value} (h : VR ρ (bkV μ v) y) : VR ρ' (bkV ν v) y := by
  have arr : ∀ (l : List Value) (a' : Array Value), (l.map (bk μ)).length = a'.size → (∀ (i : Nat) (x y : Value), (l.map (bk μ))[i]? = some x → a'[i]? = some y → VR ρ x y) → ∀ (i : Nat) (x y : Value), (l.map (bk ν))[i]? = some x → a'[i]? = some y → VR ρ' x y := by
    intro l a' hs h i x y hx hy
    rw [List.getElem?_map] at hx
    cases hq : l[i]? with
    | none => rw [hq] at hx; cases hx
    | some u => rw [hq] at hx; cases hx; exact bk_VR H (h i _ y (by rw [List.getElem?_map, hq]; rfl) hy)
  cases v with
  | agg vs =>
    simp only [bkV] at h ⊢
    cases h with
    | agg _ a' ha hh => exact .agg _ _ (by simpa using ha) fun i x y hx hy => arr vs.toList a' (by simpa using ha) (fun i x y hx hy => hh i x y (by simpa using hx) hy) i x y (by simpa using hx) hy
  | tuple vs =>
    simp only [bkV] at h ⊢
    cases h with
    | tuple _ a' ha hh => exact .tuple _ _ (by simpa using ha) fun i x y hx hy => arr vs.toList a' (by simpa using ha) (fun i x y hx hy => hh i x y (by simpa using hx) hy) i x y (by simpa using hx) hy
  | bool b => exact bk_VR (v := .bool b) H h
  | int k n => exact bk_VR (v := .int k n) H h
  | float k b => exact bk_VR (v := .float k b) H h
  | string q => exact bk_VR (v := .string q) H h
  | pointer q => exact bk_VR (v := .pointer q) H h
  | slice q n c => exact bk_VR (v := .slice q n c) H h
  | map q => exact bk_VR (v := .map q) H h
  | nilFunc => exact bk_VR (v := .nilFunc) H h
  | nilIface => exact bk_VR (v := .nilIface) H h
  | _ => exact .any _
def bkO (μ : Lk) : AObj → AObj
  | .cells cs ex es => .cells (cs.map (bk μ)) ex es
  | .old cs ex es => .old (cs.map (bk μ)) ex es
  | .row k es lo n elem => .row k es lo n elem
  | .map es clock => .map (es.map fun e => { e with val := bk μ e.val }) clock
  | .omap kk vk es => .omap kk vk es
  | .iter s p => .iter s p
/-- names where it was shown -/
def lkAt (n : Nat) (nm : List Nat) : Lk := fun i => cond (Nat.blt i n) (some i) nm[i - n]?
def newUps (μ : Lk) : List AObj → ASt → ASt
  | [], st => st
  | o :: l, st => newUps μ l (st.new (bkO μ o))
theorem newUps_get {μ : Lk} : ∀ {l : List AObj} {st : ASt} {x : Nat}, (newUps μ l st).h.get x = (if st.next ≤ x ∧ x < st.next + l.length then (l[x - st.next]?).map (bkO μ) else st.h.get x) ∧ (newUps μ l st).next = st.next + l.length := by
  intro l
  induction l with
  | nil => intro st x; rw [if_neg (by simp)]; exact ⟨rfl, rfl⟩
  | cons o l ih =>
    intro st x
    obtain ⟨h1, h2⟩ := ih (st := st.new (bkO μ o)) (x := x)
    have hn : (st.new (bkO μ o)).next = st.next + 1 := rfl
    refine ⟨?_, by simp only [newUps, h2, hn, List.length_cons]; omega⟩
    simp only [newUps, h1, hn]
    by_cases hx : x = st.next
    · subst hx
      rw [if_neg (by omega), if_pos (by simp)]
      simp only [ASt.new, set_get, upd_same, Nat.sub_self, List.getElem?_cons_zero, Option.map_some]
    · by_cases h3 : st.next + 1 ≤ x ∧ x < st.next + 1 + l.length
      · rw [if_pos h3, if_pos (by simp; omega), show x - st.next = (x - (st.next + 1)) + 1 by omega, List.getElem?_cons_succ]
      · rw [if_neg h3, if_neg (by simp; omega)]
        simp only [ASt.new, set_get]; exact upd_ne _ _ hx
theorem newUps_lo {μ : Lk} : ∀ {l : List AObj} {st : ASt}, LoS st (newUps μ l st) := by
  intro l
  induction l with
  | nil => intro st; exact LoS.refl _
  | cons o l ih => intro st; exact (LoS.new st _).trans ih

/-- an answer of more than one value -/
def bkX (μ : Lk) : Value → Value
  | .tuple vs => .tuple ⟨vs.toList.map (bkV μ)⟩
  | v => bkV μ v
theorem bkX_VR {μ ν : Lk} {ρ ρ' : Rho} (H : LkR μ ν ρ ρ') {v y : Value} (h : VR ρ (bkX μ v) y) : VR ρ' (bkX ν v) y := by
  cases v with
  | tuple vs =>
    simp only [bkX] at h ⊢
    cases h with
    | tuple _ a' ha hh =>
      refine .tuple _ _ (by simpa using ha) fun i x y hx hy => ?_
      simp only [List.getElem?_toArray, List.getElem?_map] at hx
      cases hq : vs.toList[i]? with
      | none => rw [hq] at hx; cases hx
      | some u => rw [hq] at hx; cases hx; exact bkV_VR H (hh i _ y (by simp only [List.getElem?_toArray, List.getElem?_map, hq]; rfl) hy)
  | bool b => exact bkV_VR (v := .bool b) H h
  | int k n => exact bkV_VR (v := .int k n) H h
  | float k b => exact bkV_VR (v := .float k b) H h
  | string q => exact bkV_VR (v := .string q) H h
  | pointer q => exact bkV_VR (v := .pointer q) H h
  | slice q n c => exact bkV_VR (v := .slice q n c) H h
  | map q => exact bkV_VR (v := .map q) H h
  | nilFunc => exact bkV_VR (v := .nilFunc) H h
  | nilIface => exact bkV_VR (v := .nilIface) H h
  | agg vs => exact bkV_VR (v := .agg vs) H h
  | complex k a b => exact .any _
  | chan r => exact .any _
  | func f a b => exact .any _
  | iface t v => exact .any _
def isCells : AObj → Bool
  | .cells .. => true
  | _ => false
theorem bkO_cells {μ ν : Lk} {ρ ρ' : Rho} (H : LkR μ ν ρ ρ') {o : AObj} (hc : isCells o = true) {s : Spot} {w : World} (h : ObjR ρ (bkO μ o) s w) : ObjR ρ' (bkO ν o) s w := by
  cases o with
  | cells cs ex es =>
    obtain ⟨h0, h1, h2, C, t, fr, h3, h4, h5, h6, h7⟩ := h
    refine ⟨h0, h1, h2, C, t, fr, h3, h4, h5, by simpa using h6, fun i x hx => ?_⟩
    rw [List.getElem?_map] at hx
    cases hq : cs[i]? with
    | none => rw [hq] at hx; cases hx
    | some u =>
      rw [hq] at hx; cases hx
      obtain ⟨y, hy, hv⟩ := h7 i _ (by rw [List.getElem?_map, hq]; rfl)
      exact ⟨y, hy, bk_VR H hv⟩
  | _ => cases hc
theorem bkO_isOwn {μ : Lk} {o : AObj} (hc : isCells o = true) : (bkO μ o).isOwn = true := by
  cases o with
  | cells => rfl
  | _ => cases hc
/-- numbers behind those that there are -/
def lkN (nx m : Nat) : Lk := fun i => cond (Nat.blt i m) (some (nx + i)) none
def sameY : Value → Value → Bool
  | .agg a, .agg b => sameWs a.toList b.toList
  | v, w => sameW v w
def sameYs : List Value → List Value → Bool
  | [], [] => true
  | v :: l, w :: m => sameY v w && sameYs l m
  | _, _ => false
def sameX : Value → Value → Bool
  | .tuple a, .tuple b => sameYs a.toList b.toList
  | v, w => sameY v w
theorem sameY_eq {v w : Value} (h : sameY v w = true) : v = w := by
  unfold sameY at h
  split at h
  · rename_i a b
    congr 1
    exact Array.toList_inj.1 (sameWs_eq h)
  · exact sameW_eq h
theorem sameYs_eq : ∀ {l m : List Value}, sameYs l m = true → l = m := by
  intro l
  induction l with
  | nil => intro m h; cases m with
    | nil => rfl
    | cons => cases h
  | cons v l ih => intro m h; cases m with
    | nil => cases h
    | cons w m =>
      simp only [sameYs, Bool.and_eq_true] at h
      rw [sameY_eq h.1, ih h.2]
theorem sameX_eq {v w : Value} (h : sameX v w = true) : v = w := by
  unfold sameX at h
  split at h
  · rename_i a b
    congr 1
    exact Array.toList_inj.1 (sameYs_eq h)
  · exact sameY_eq h
/-- what it comes to there -/
def PtOk (P : Program) (g : FuncId) (lit : List Value) (r : Value) (objs : List AObj) : Prop := ∀ w : World, GlA w → Calls P g lit.toArray w fun e w' => ∃ (ρ2 : Rho) (g2 : Mem) (n2 : Nat) (nm : List Nat), nm.length = objs.length ∧ nm.Nodup ∧
  (∃ v', e = .returned v' ∧ VR ρ2 (bkX (lkAt 0 nm) r) v') ∧ Mv (fun _ => none) ρ2 (fun _ => none) g2 0 n2 w w' ∧ ∀ (i : Nat) (o : AObj), objs[i]? = some o → ∃ x, nm[i]? = some x ∧ g2 x = some (bkO (lkAt 0 nm) o)
def ptC (lit : List Value) (r : Value) (objs : List AObj) : TCon where
  run args st := cond (sameYs args lit) (.ok (.returned (bkX (lkN st.next objs.length) r), newUps (lkN st.next objs.length) objs st)) (.er "told at another place")
  sym args st K := cond (sameYs args lit) (K (.returned (bkX (lkN st.next objs.length) r)) (newUps (lkN st.next objs.length) objs st)) False
  ok args st K h := by
    cases hs : sameYs args lit with
    | false => rw [hs] at h; exact h.elim
    | true => rw [hs] at h; exact ⟨_, _, rfl, h⟩
theorem pt_told {P : Program} {g : FuncId} {lit : List Value} {r : Value} {objs : List AObj} (hlit : lit.all (ground 1) = true) (hcl : objs.all isCells = true) (h : PtOk P g lit r objs) : ∀ args st q st', Wf st → (ptC lit r objs).run args st = .ok (q, st') → LoS st st' ∧ ∀ ρ w (args' : Array Value), VRL ρ args args'.toList → WR ρ st.h.get w → Fresh ρ st.next st'.next →
    Calls P g args' w fun e w' => ∃ ρ', EndR ρ' q e ∧ Mv ρ ρ' st.h.get st'.h.get st.next st'.next w w' := by
  intro args st q st' hwf hr
  simp only [ptC] at hr
  obtain ⟨hsame, hr1⟩ := cond_ok hr
  clear hr
  have hr := hr1
  clear hr1
  have := sameYs_eq hsame
  subst this
  have hr := Rs.ok.inj hr
  have hq : q = .returned (bkX (lkN st.next objs.length) r) := (congrArg Prod.fst hr).symm
  have hst : st' = newUps (lkN st.next objs.length) objs st := (congrArg Prod.snd hr).symm
  subst hq
  clear hr
  have hnx : st'.next = st.next + objs.length := by rw [hst]; exact (newUps_get (x := 0)).2
  have hsg : ∀ x, st'.h.get x = (if st.next ≤ x ∧ x < st.next + objs.length then (objs[x - st.next]?).map (bkO (lkN st.next objs.length)) else st.h.get x) := fun x => by rw [hst]; exact (newUps_get (x := x)).1
  generalize hν : lkN st.next objs.length = ν at hsg hst ⊢
  refine ⟨by rw [hst]; exact newUps_lo, fun ρ w args' hv hw hfr => ?_⟩
  rw [hnx] at hfr ⊢
  have hargs : args' = args.toArray := by
    apply Array.toList_inj.1
    rw [all_ground hv hlit]
  subst hargs
  refine (h w hw.glA).mono fun e w' he => ?_
  obtain ⟨ρ2, g2, n2, nm, nm1, nm2, ⟨v', rfl, hv'⟩, M, hobj⟩ := he
  generalize hμ : lkAt 0 nm = μ at hv' hobj
  have hcells : ∀ (i : Nat) (o : AObj), objs[i]? = some o → isCells o = true := fun i o ho => by
    rw [List.all_eq_true] at hcl
    exact hcl o (List.mem_of_getElem? ho)
  obtain ⟨ρ', hρ'⟩ : ∃ ρ' : Rho, ρ' = fun a => if st.next ≤ a ∧ a < st.next + objs.length then (nm[a - st.next]?).bind ρ2 else ρ a := ⟨_, rfl⟩
  have hρn : ∀ (j x : Nat), nm[j]? = some x → ρ' (st.next + j) = ρ2 x := fun j x hj => by
    have hjl := (List.getElem?_eq_some_iff.1 hj).1
    rw [hρ']; simp only
    rw [if_pos (by omega), show st.next + j - st.next = j by omega, hj]; rfl
  have hρo : ∀ a, ¬ (st.next ≤ a ∧ a < st.next + objs.length) → ρ' a = ρ a := fun a ha => by rw [hρ']; simp only; rw [if_neg ha]
  have hρs : ∀ a t, ρ a = some t → ¬ (st.next ≤ a ∧ a < st.next + objs.length) := fun a t ht hin => by
    rw [hfr a hin.1 hin.2] at ht; cases ht
  have hsub : Sub ρ ρ' := fun a t ht => by rw [hρo a (hρs a t ht)]; exact ht
  have hin : ∀ a, st.next ≤ a ∧ a < st.next + objs.length → ∃ j x, a = st.next + j ∧ nm[j]? = some x ∧ ρ' a = ρ2 x := fun a ha => by
    obtain ⟨j, rfl⟩ : ∃ j, a = st.next + j := ⟨a - st.next, by omega⟩
    have hjl : j < nm.length := by omega
    exact ⟨j, nm[j], rfl, List.getElem?_eq_getElem hjl, hρn _ _ (List.getElem?_eq_getElem hjl)⟩
  have H : LkR μ ν ρ2 ρ' := by
    refine ⟨fun i a hi => ?_, fun i x a s hx ha hs => ?_⟩
    · rw [← hν] at hi
      simp only [lkN] at hi
      cases hb : Nat.blt i objs.length with
      | false => rw [hb] at hi; cases hi
      | true =>
        have hlt : i < nm.length := by rw [nm1]; exact blt_lt hb
        refine ⟨nm[i], ?_⟩
        rw [← hμ]
        simp only [lkAt]
        show cond false _ _ = _
        simp [hlt]
    · rw [← hν] at ha
      simp only [lkN] at ha
      cases hb : Nat.blt i objs.length with
      | false => rw [hb] at ha; cases ha
      | true =>
        rw [hb] at ha
        simp only [cond_true, Option.some.injEq] at ha
        subst ha
        rw [← hμ] at hx
        simp only [lkAt] at hx
        have hx : nm[i]? = some x := by
          have : Nat.blt i 0 = false := rfl
          rw [this] at hx
          simpa using hx
        exact ⟨s, by rw [hρn i x hx]; exact hs, ⟨rfl, rfl, rfl, rfl, rfl, rfl⟩⟩
  -- what stands in memory
  have hold : ∀ a o, st'.h.get a = some o → (¬ (st.next ≤ a ∧ a < st.next + objs.length) ∧ st.h.get a = some o ∧ ρ' a = ρ a) ∨ ∃ j x o0, a = st.next + j ∧ nm[j]? = some x ∧ objs[j]? = some o0 ∧ o = bkO ν o0 ∧ ρ' a = ρ2 x ∧ g2 x = some (bkO μ o0) := fun a o ha => by
    rw [hsg a] at ha
    by_cases hr : st.next ≤ a ∧ a < st.next + objs.length
    · rw [if_pos hr] at ha
      obtain ⟨j, x, h1, h2, h3⟩ := hin a hr
      subst h1
      rw [show st.next + j - st.next = j by omega] at ha
      cases ho : objs[j]? with
      | none => rw [ho] at ha; cases ha
      | some o0 =>
        rw [ho] at ha
        simp only [Option.map_some, Option.some.injEq] at ha
        obtain ⟨x', q1, q2⟩ := hobj j o0 ho
        rw [h2] at q1; cases q1
        exact .inr ⟨j, x, o0, rfl, h2, ho, ha.symm, h3, q2⟩
    · rw [if_neg hr] at ha
      exact .inl ⟨hr, ha, hρo a hr⟩
  have hframe : ∀ b, b < w.heap.size → w'.heap[b]? = w.heap[b]? := fun b hb => M.frm b hb fun ⟨a, o, s, e, _⟩ => by cases e
  have hown2 : ∀ b, Own g2 ρ2 b → w.heap.size ≤ b := fun b hb => by
    rcases M.own b hb with h1 | ⟨a, o, s, e, _⟩
    · exact h1
    · cases e
  have hfz2 : ∀ b, Frz ρ2 b → w.heap.size ≤ b := fun b hb => by
    rcases M.fzn b hb with ⟨a, s, e, _⟩ | h1 | ⟨a, o, s, e, _⟩
    · cases e
    · exact h1
    · cases e
  have hown : ∀ b, Own st'.h.get ρ' b → Own g2 ρ2 b ∨ Own st.h.get ρ b := fun b ⟨a, o, s, e1, e0, e2, e3, e4⟩ => by
    rcases hold a o e1 with ⟨_, h2, h3⟩ | ⟨j, x, o0, _, h2, h3, rfl, h4, h5⟩
    · exact .inr ⟨a, o, s, h2, e0, by rw [← h3]; exact e2, e3, e4⟩
    · exact .inl ⟨x, _, s, h5, bkO_isOwn (hcells j o0 h3), by rw [← h4]; exact e2, e3, e4⟩
  have hfz : ∀ b, Frz ρ' b → Frz ρ b ∨ Frz ρ2 b := fun b ⟨a, t, h1, h2⟩ => by
    by_cases hr : st.next ≤ a ∧ a < st.next + objs.length
    · obtain ⟨j, x, _, _, h5⟩ := hin a hr
      rw [h5] at h1
      exact .inr ⟨x, t, h1, h2⟩
    · rw [hρo a hr] at h1
      exact .inl ⟨a, t, h1, h2⟩
  have hkeepF : ∀ b, Frz ρ b → w'.heap[b]? = w.heap[b]? := fun b hb => hframe b (hw.fz b hb).1
  refine ⟨ρ', ⟨v', rfl, bkX_VR H hv'⟩, ⟨by omega, hsub, fun a s ha => ?_, M.size, fun b hb _ => hframe b hb, fun b hb => ?_, M.os, M.tape, M.output, ⟨fun a s ha hs => ?_, fun a o ha => ?_, fun a b oa ob sa sb ea eb eo ra rb va vb heq => ?_, fun b hb => ?_, ?_⟩, fun a o ha => ?_, fun a o ha ho => ?_, fun b hb => ?_⟩⟩
  · by_cases hr : st.next ≤ a ∧ a < st.next + objs.length
    · exact .inr hr
    · rw [hρo a hr] at ha; exact .inl ha
  · rcases hown b hb with h1 | h1
    · exact .inl (hown2 b h1)
    · exact .inr h1
  · by_cases hr : st.next ≤ a ∧ a < st.next + objs.length
    · obtain ⟨j, x, _, _, h5⟩ := hin a hr
      rw [h5] at ha
      exact M.wr.blk x s ha hs
    · rw [hρo a hr] at ha
      exact Nat.lt_of_lt_of_le (hw.blk a s ha hs) M.size
  · rcases hold a o ha with ⟨hr, h2, h3⟩ | ⟨j, x, o0, _, h2, h3, rfl, h4, h5⟩
    · obtain ⟨s, k1, k2⟩ := hw.obj a o h2
      exact ⟨s, by rw [h3]; exact k1, k2.kept hsub (fun hv => hframe _ (hw.blk a s k1 hv)) hkeepF⟩
    · obtain ⟨s, k1, k2⟩ := M.wr.obj x _ h5
      exact ⟨s, by rw [h4]; exact k1, bkO_cells H (hcells j o0 h3) k2⟩
  · rcases hold a oa ea with ⟨ha1, ha2, ha3⟩ | ⟨j, x, o0, rfl, ha2, ha3, rfl, ha4, ha5⟩
    · rcases hold b ob eb with ⟨hb1, hb2, hb3⟩ | ⟨k, y, o1, rfl, hb2, hb3, rfl, hb4, hb5⟩
      · exact hw.inj a b oa ob sa sb ha2 hb2 eo (by rw [← ha3]; exact ra) (by rw [← hb3]; exact rb) va vb heq
      · exfalso
        have h1 := hown2 sb.blk ⟨y, _, sb, hb5, bkO_isOwn (hcells k o1 hb3), by rw [← hb4]; exact rb, vb, rfl⟩
        have h2 := hw.blk a sa (by rw [← ha3]; exact ra) va
        omega
    · rcases hold b ob eb with ⟨hb1, hb2, hb3⟩ | ⟨k, y, o1, rfl, hb2, hb3, rfl, hb4, hb5⟩
      · exfalso
        have h1 := hown2 sa.blk ⟨x, _, sa, ha5, bkO_isOwn (hcells j o0 ha3), by rw [← ha4]; exact ra, va, rfl⟩
        have h2 := hw.blk b sb (by rw [← hb3]; exact rb) vb
        omega
      · have hxy := M.wr.inj x y _ _ sa sb ha5 hb5 (.inl (bkO_isOwn (hcells j o0 ha3))) (by rw [← ha4]; exact ra) (by rw [← hb4]; exact rb) va vb heq
        subst hxy
        obtain ⟨hi1, hi2⟩ := List.getElem?_eq_some_iff.1 ha2
        obtain ⟨hj1, hj2⟩ := List.getElem?_eq_some_iff.1 hb2
        have hpw := List.pairwise_iff_getElem.1 nm2
        rcases Nat.lt_trichotomy j k with hlt | hlt | hlt
        · exact absurd (hi2.trans hj2.symm) (hpw j k hi1 hj1 hlt)
        · rw [hlt]
        · exact absurd (hj2.trans hi2.symm) (hpw k j hj1 hi1 hlt)
  · rcases hfz b hb with h1 | h1
    · have h2 := hw.fz b h1
      refine ⟨Nat.lt_of_lt_of_le h2.1 M.size, fun h3 => ?_⟩
      rcases hown b h3 with h4 | h4
      · have := hown2 b h4; omega
      · exact h2.2 h4
    · have h2 := M.wr.fz b h1
      refine ⟨h2.1, fun h3 => ?_⟩
      rcases hown b h3 with h4 | ⟨a, o, s, e1, e0, e2, e3, e4⟩
      · exact h2.2 h4
      · have h5 := hfz2 b h1
        have h6 := hw.blk a s e2 e3
        omega
  · refine gl_keep hw M.size (fun b hb _ => hframe b hb) fun b hb => ?_
    rcases hown b hb with h1 | h1
    · exact .inl (hown2 b h1)
    · exact .inr h1
  · rcases hold a o ha with ⟨_, h2, _⟩ | ⟨j, x, o0, rfl, h2, h3, _⟩
    · exact .inl ⟨o, h2⟩
    · have hjl := (List.getElem?_eq_some_iff.1 h3).1
      exact .inr ⟨by omega, by omega⟩
  · rcases hold a o ha with ⟨_, h2, _⟩ | ⟨j, x, o0, rfl, h2, h3, rfl, _⟩
    · exact .inl h2
    · rw [bkO_isOwn (hcells j o0 h3)] at ho; cases ho
  · rcases hfz b hb with h1 | h1
    · exact .inl h1
    · exact .inr (.inl (hfz2 b h1))

/-! ### the check -/
def nodupC : List Nat → Bool
  | [] => true
  | x :: l => !(l.any (Nat.beq x)) && nodupC l
theorem nodupC_spec {l : List Nat} (h : nodupC l = true) : l.Nodup := by
  induction l with
  | nil => exact List.nodup_nil
  | cons x l ih =>
    simp only [nodupC, Bool.and_eq_true, Bool.not_eq_true'] at h
    refine List.nodup_cons.2 ⟨fun hm => ?_, ih h.2⟩
    have : l.any (Nat.beq x) = true := List.any_eq_true.2 ⟨x, hm, Nat.beq_refl x⟩
    rw [h.1] at this; cases this
def sameOb (a : Option AObj) (b : AObj) : Bool := match a, b with
  | some (.cells cs ex es), .cells cs' ex' es' => sameWs cs cs' && (ex == ex') && Nat.beq es es'
  | _, _ => false
theorem sameOb_eq {a : Option AObj} {b : AObj} (h : sameOb a b = true) : a = some b := by
  unfold sameOb at h
  split at h
  · simp only [Bool.and_eq_true] at h
    rw [sameWs_eq h.1.1, eq_of_beq h.1.2, Nat.eq_of_beq_eq_true h.2]
  · cases h
def objsB (μ : Lk) (h : Tr AObj) : List Nat → List AObj → Bool
  | [], [] => true
  | x :: nm, o :: l => sameOb (h.get x) (bkO μ o) && objsB μ h nm l
  | _, _ => false
theorem objsB_spec {μ : Lk} {h : Tr AObj} : ∀ {nm : List Nat} {l : List AObj}, objsB μ h nm l = true → nm.length = l.length ∧ ∀ (i : Nat) (o : AObj), l[i]? = some o → ∃ x, nm[i]? = some x ∧ h.get x = some (bkO μ o) := by
  intro nm
  induction nm with
  | nil => intro l hh; cases l with
    | nil => exact ⟨rfl, fun i o ho => by simp at ho⟩
    | cons => cases hh
  | cons x nm ih => intro l hh; cases l with
    | nil => cases hh
    | cons o l =>
      simp only [objsB, Bool.and_eq_true] at hh
      obtain ⟨h1, h2⟩ := ih hh.2
      refine ⟨by simp [h1], fun i o' ho => ?_⟩
      cases i with
      | zero => cases ho; exact ⟨x, rfl, sameOb_eq hh.1⟩
      | succ i => exact h2 i o' ho
/-- the run of it, looked at once -/
noncomputable def ptB (P : Program) (C : Told) (g : FuncId) (lit : List Value) (nm : List Nat) (r : Value) (objs : List AObj) : Bool := match funF P C 100000 100 g lit st0 with
  | .ok (.returned v, st) => sameX v (bkX (lkAt 0 nm) r) && nodupC nm && objsB (lkAt 0 nm) st.h nm objs
  | _ => false
theorem pt_ok {P : Program} {C : Told} (hm : P.follows .mixedOrders = true) (hC : ToldS P C) {g : FuncId} {lit : List Value} {nm : List Nat} {r : Value} {objs : List AObj} (hlit : lit.all (ground 1) = true) (h : ptB P C g lit nm r objs = true) : PtOk P g lit r objs := by
  unfold ptB at h
  rw [funF_eq] at h
  split at h
  · rename_i v st he
    simp only [Bool.and_eq_true] at h
    obtain ⟨⟨h1, h2⟩, h3⟩ := h
    have hv := sameX_eq h1
    subst hv
    obtain ⟨k1, k2⟩ := objsB_spec h3
    intro w hgl
    have hwf : Wf st0 := fun x o e => by cases e
    obtain ⟨_, h4⟩ := evFunC_sound hm hC 100000 100 g lit st0 _ st hwf he
    have hw : WR (fun _ => none) st0.h.get w := by
      refine ⟨?_, ?_, ?_, ?_, fun b hb => ⟨(hgl b hb).1, (hgl b hb).2, fun ⟨a, o, s, e, _⟩ => by cases e⟩⟩
      · intro a s e; cases e
      · intro a o e; cases e
      · intro a b oa ob sa sb e; cases e
      · intro b hb; obtain ⟨a, s, e, _⟩ := hb; cases e
    have hlv : VRL (fun _ => none) lit lit.toArray.toList := ground_list (n := 1) hlit
    refine (h4 (fun _ => none) w lit.toArray hlv hw (fun _ _ _ => rfl)).mono fun e w' he => ?_
    obtain ⟨ρ', ⟨v', e1, hv'⟩, hmv⟩ := he
    exact ⟨ρ', st.h.get, st.next, nm, k1, nodupC_spec h2, ⟨v', e1, hv'⟩, hmv, k2⟩
  · cases h
/-! ### at some places, else by its code -/
def lookP : List (List Value × Value) → List Value → Option Value
  | [], _ => none
  | p :: l, args => cond (sameYs args p.1) (some p.2) (lookP l args)
theorem lookP_some {v : Value} {args : List Value} : ∀ {l : List (List Value × Value)}, lookP l args = some v → (args, v) ∈ l := by
  intro l
  induction l with
  | nil => intro h; cases h
  | cons p l ih =>
    intro h
    simp only [lookP] at h
    cases hs : sameYs args p.1 with
    | true =>
      rw [hs] at h
      cases h
      rw [sameYs_eq hs]
      exact List.mem_cons_self ..
    | false =>
      rw [hs] at h
      exact List.mem_cons_of_mem _ (ih h)
noncomputable def ptsC (P : Program) (C : Told) (g : FuncId) (tab : List (List Value × Value)) : TCon where
  run args st := match lookP tab args with
    | some v => .ok (.returned v, st)
    | none => funF P C 100000 90 g args st
  sym args st K := match lookP tab args with
    | some v => K (.returned v) st
    | none => funK P C 100000 90 g args st K
  ok args st K h := by
    split at h
    · exact ⟨_, _, rfl, h⟩
    · obtain ⟨r, st', h1, h2⟩ := funK_ok P C 100000 90 g args st K h
      exact ⟨r, st', by rw [funF_eq]; exact h1, h2⟩
noncomputable def Told.pts (C : Told) (P : Program) (g : FuncId) (tab : List (List Value × Value)) : Told := fun f => cond (Nat.beq f g) (some (ptsC P C g tab)) (C f)
theorem Told.pts_ok {P : Program} {C : Told} (hm : P.follows .mixedOrders = true) (hC : ToldS P C) {g : FuncId} {tab : List (List Value × Value)} (h : ∀ p ∈ tab, p.1.all (ground 1) = true ∧ (∀ n, bkX (lkN n 0) p.2 = p.2) ∧ PtOk P g p.1 p.2 []) : ToldS P (C.pts P g tab) := by
  intro f c hc
  unfold Told.pts at hc
  cases hb : Nat.beq f g with
  | true =>
    rw [hb] at hc
    have := Nat.eq_of_beq_eq_true hb
    subst this
    cases hc
    intro args st r st' hwf hr
    simp only [ptsC] at hr
    split at hr
    · rename_i v hv
      cases hr
      obtain ⟨h1, h2, h3⟩ := h _ (lookP_some hv)
      simp only at h1 h2 h3
      have hself : ∀ l : List Value, l.all (ground 1) = true → sameYs l l = true → (ptC l v []).run l st = .ok (.returned v, st) := by
        intro l _ hs
        simp only [ptC, hs, cond_true, List.length_nil, newUps, h2]
      have hs : sameYs args args = true := by
        have := lookP_some hv
        clear h1 h2 h3 hself
        revert hv
        generalize tab = l
        intro hv
        induction l with
        | nil => cases hv
        | cons p l ih =>
          simp only [lookP] at hv
          cases hs : sameYs args p.1 with
          | true => have := sameYs_eq hs; rw [← this] at hs; exact hs
          | false => rw [hs] at hv; exact ih hv
      exact pt_told (objs := []) h1 rfl h3 args st _ _ hwf (hself args h1 hs)
    · rw [funF_eq] at hr
      exact evFunC_sound hm hC 100000 90 f args st r st' hwf hr
  | false => rw [hb] at hc; exact hC f c hc
/-- the runs of it at all its places -/
noncomputable def ptsB (P : Program) (C : Told) (g : FuncId) : List (List Value × Value) → Bool
  | [] => true
  | p :: l => p.1.all (ground 1) && ptB P C g p.1 [] p.2 [] && ptsB P C g l
theorem ptsB_ok {P : Program} {C : Told} (hm : P.follows .mixedOrders = true) (hC : ToldS P C) {g : FuncId} : ∀ {l : List (List Value × Value)}, ptsB P C g l = true → ∀ p ∈ l, p.1.all (ground 1) = true ∧ PtOk P g p.1 p.2 [] := by
  intro l
  induction l with
  | nil => intro _ p hp; cases hp
  | cons q l ih =>
    intro h p hp
    simp only [ptsB, Bool.and_eq_true] at h
    rcases List.mem_cons.1 hp with rfl | hp
    · exact ⟨h.1.1, pt_ok hm hC h.1.1 h.1.2⟩
    · exact ih h.2 p hp
def Told.pt (C : Told) (g : FuncId) (lit : List Value) (r : Value) (objs : List AObj) : Told := fun f => cond (Nat.beq f g) (some (ptC lit r objs)) (C f)
theorem Told.pt_ok {P : Program} {C : Told} {g : FuncId} {lit : List Value} {r : Value} {objs : List AObj} (hC : ToldS P C) (hlit : lit.all (ground 1) = true) (hcl : objs.all isCells = true) (h : PtOk P g lit r objs) : ToldS P (C.pt g lit r objs) := by
  intro f c hc
  unfold Told.pt at hc
  cases hb : Nat.beq f g with
  | true =>
    rw [hb] at hc
    have := Nat.eq_of_beq_eq_true hb
    subst this
    cases hc
    exact pt_told hlit hcl h
  | false => rw [hb] at hc; exact hC f c hc
end Go.Proofs.YtpogcoolgnjejaaGreatDoor.Ev
/-
  A function told at places that have memory: what it is given reads so and so, it leaves that as it was, and what it makes is laid with new numbers.
-/
set_option linter.unusedVariables false
set_option linter.unusedSimpArgs false
namespace Go.Proofs.YtpogcoolgnjejaaGreatDoor.Ev
open Go Go.RowKit

/-- a place: what it is given (names 0.. in memory), what it answers, what is new (named behind) -/
structure MPt where
  args : List Value
  objs : List AObj
  ret : Value
  news : List AObj
def lkK (keep : List Nat) : Lk := fun i => keep[i]?
def lkM (keep : List Nat) (nx m : Nat) : Lk := fun i => match keep[i]? with
  | some a => some a
  | none => cond (Nat.blt i (keep.length + m)) (some (nx + (i - keep.length))) none
def mem0 (e : MPt) : ASt := newUps (lkN 0 e.objs.length) e.objs st0
def args0M (e : MPt) : List Value := e.args.map (bkV (lkN 0 e.objs.length))
def MpOk (P : Program) (g : FuncId) (e : MPt) : Prop := ∀ (w : World) (ρ : Rho) (args' : Array Value), WR ρ (mem0 e).h.get w → VRL ρ (args0M e) args'.toList → (∀ x, e.objs.length ≤ x → ρ x = none) → Calls P g args' w fun q w' => ∃ (ρ2 : Rho) (g2 : Mem) (n2 : Nat) (nm : List Nat), nm.length = e.news.length ∧ nm.Nodup ∧ (∀ x ∈ nm, e.objs.length ≤ x) ∧
  (∃ v', q = .returned v' ∧ VR ρ2 (bkX (lkAt e.objs.length nm) e.ret) v') ∧ Mv ρ ρ2 (mem0 e).h.get g2 e.objs.length n2 w w' ∧ (∀ (i : Nat) (o : AObj), e.objs[i]? = some o → g2 i = some (bkO (lkN 0 e.objs.length) o)) ∧
  ∀ (j : Nat) (o : AObj), e.news[j]? = some o → ∃ x, nm[j]? = some x ∧ g2 x = some (bkO (lkAt e.objs.length nm) o)
noncomputable def mpKeep (args : List Value) (st : ASt) : List Nat := (rchF st.h 100000 (args.flatMap (idsV 4)) .leaf []).reverse
noncomputable def objsG (μ : Lk) (h : Tr AObj) : List Nat → List AObj → Bool
  | [], [] => true
  | x :: nm, o :: l => sameOb (hGet h x) (bkO μ o) && objsG μ h nm l
  | _, _ => false
theorem objsG_eq {μ : Lk} {h : Tr AObj} : ∀ {nm : List Nat} {l : List AObj}, objsG μ h nm l = objsB μ h nm l := by
  intro nm
  induction nm with
  | nil => intro l; cases l <;> rfl
  | cons x nm ih => intro l; cases l with
    | nil => rfl
    | cons o l => simp only [objsG, objsB, ih, hGet_eq]
noncomputable def mpFit (keep : List Nat) (args : List Value) (st : ASt) (e : MPt) : Bool := sameYs args (e.args.map (bkV (lkK keep))) && objsG (lkK keep) st.h keep e.objs
/-- which place it is, a number of the memory's end says -/
noncomputable def mpC (tab : List MPt) (ix : Nat → Nat) : TCon where
  run args st := match tab[ix st.next]? with
    | some e => cond (nodupC (mpKeep args st)) (cond (mpFit (mpKeep args st) args st e) (.ok (.returned (bkX (lkM (mpKeep args st) st.next e.news.length) e.ret), newUps (lkM (mpKeep args st) st.next e.news.length) e.news st)) (.er "no such place")) (.er "names")
    | none => .er "no place"
  sym _ _ _ := False
  ok _ _ _ h := h.elim
theorem VRL.bk {μ ν : Lk} {ρ ρ' : Rho} (H : LkR μ ν ρ ρ') {l m : List Value} (h : VRL ρ (l.map (bkV μ)) m) : VRL ρ' (l.map (bkV ν)) m := by
  refine ⟨by have := h.1; simpa using this, fun i x y hx hy => ?_⟩
  rw [List.getElem?_map] at hx
  cases hq : l[i]? with
  | none => rw [hq] at hx; cases hx
  | some u =>
    rw [hq] at hx; cases hx
    exact bkV_VR H (h.2 i _ y (by rw [List.getElem?_map, hq]; rfl) hy)
theorem mem0_get (e : MPt) (i : Nat) : (mem0 e).h.get i = (e.objs[i]?).map (bkO (lkN 0 e.objs.length)) := by
  unfold mem0
  rw [(newUps_get (x := i)).1]
  show (if 0 ≤ i ∧ i < 0 + e.objs.length then (e.objs[i - 0]?).map (bkO (lkN 0 e.objs.length)) else none) = _
  by_cases h : i < e.objs.length
  · rw [if_pos (by omega), Nat.sub_zero]
  · rw [if_neg (by omega), List.getElem?_eq_none (by omega)]; rfl
theorem lkN0 {k i a : Nat} (h : lkN 0 k i = some a) : i < k ∧ a = i := by
  simp only [lkN] at h
  cases hb : Nat.blt i k with
  | false => rw [hb] at h; cases h
  | true => rw [hb] at h; simp only [cond_true, Option.some.injEq] at h; exact ⟨blt_lt hb, by omega⟩
theorem lkN0_of {k i : Nat} (h : i < k) : lkN 0 k i = some i := by
  simp only [lkN]
  have : Nat.blt i k = true := by simpa using h
  rw [this]; simp
/-- from a place that fits -/
theorem mp_core {P : Program} {g : FuncId} {e : MPt} {keep : List Nat} {args : List Value} {st st' : ASt} (hco : e.objs.all isCells = true) (hcn : e.news.all isCells = true) (hlaw : MpOk P g e) (hnd : keep.Nodup) (hargs : args = e.args.map (bkV (lkK keep)))
    (hkl : keep.length = e.objs.length) (hko : ∀ (i : Nat) (o : AObj), e.objs[i]? = some o → ∃ x, keep[i]? = some x ∧ st.h.get x = some (bkO (lkK keep) o)) (hst : st' = newUps (lkM keep st.next e.news.length) e.news st) : LoS st st' ∧ ∀ ρ w (args' : Array Value), VRL ρ args args'.toList → WR ρ st.h.get w → Fresh ρ st.next st'.next →
    Calls P g args' w fun r w' => ∃ ρ', EndR ρ' (.returned (bkX (lkM keep st.next e.news.length) e.ret)) r ∧ Mv ρ ρ' st.h.get st'.h.get st.next st'.next w w' := by
  have hnx : st'.next = st.next + e.news.length := by rw [hst]; exact (newUps_get (x := 0)).2
  have hsg : ∀ x, st'.h.get x = (if st.next ≤ x ∧ x < st.next + e.news.length then (e.news[x - st.next]?).map (bkO (lkM keep st.next e.news.length)) else st.h.get x) := fun x => by rw [hst]; exact (newUps_get (x := x)).1
  generalize hν : lkM keep st.next e.news.length = ν at hsg hst ⊢
  refine ⟨by rw [hst]; exact newUps_lo, fun ρ w args' hv hw hfr => ?_⟩
  rw [hnx] at hfr ⊢
  have hco' : ∀ (i : Nat) (o : AObj), e.objs[i]? = some o → isCells o = true := fun i o ho => by
    rw [List.all_eq_true] at hco; exact hco o (List.mem_of_getElem? ho)
  have hcn' : ∀ (i : Nat) (o : AObj), e.news[i]? = some o → isCells o = true := fun i o ho => by
    rw [List.all_eq_true] at hcn; exact hcn o (List.mem_of_getElem? ho)
  -- the names of the place
  obtain ⟨ρC, hρC⟩ : ∃ ρC : Rho, ρC = fun i => (keep[i]?).bind ρ := ⟨_, rfl⟩
  have hC : ∀ i s, ρC i = some s → ∃ x, keep[i]? = some x ∧ ρ x = some s := fun i s h => by
    rw [hρC] at h
    simp only at h
    cases hk : keep[i]? with
    | none => rw [hk] at h; cases h
    | some x => rw [hk] at h; exact ⟨x, rfl, h⟩
  have hCof : ∀ i x, keep[i]? = some x → ρC i = ρ x := fun i x h => by rw [hρC]; simp only [h]; rfl
  have hgC : ∀ i o', (mem0 e).h.get i = some o' → ∃ o x, e.objs[i]? = some o ∧ o' = bkO (lkN 0 e.objs.length) o ∧ keep[i]? = some x ∧ st.h.get x = some (bkO (lkK keep) o) := fun i o' h => by
    rw [mem0_get] at h
    cases ho : e.objs[i]? with
    | none => rw [ho] at h; cases h
    | some o =>
      rw [ho] at h
      simp only [Option.map_some, Option.some.injEq] at h
      obtain ⟨x, h1, h2⟩ := hko i o ho
      exact ⟨o, x, rfl, h.symm, h1, h2⟩
  have H1 : LkR (lkK keep) (lkN 0 e.objs.length) ρ ρC := by
    refine ⟨fun i a hi => ?_, fun i x a s hx ha hs => ?_⟩
    · obtain ⟨h1, _⟩ := lkN0 hi
      exact ⟨keep[i]'(by omega), List.getElem?_eq_getElem (by omega)⟩
    · obtain ⟨_, rfl⟩ := lkN0 ha
      exact ⟨s, by rw [hCof a x hx]; exact hs, ⟨rfl, rfl, rfl, rfl, rfl, rfl⟩⟩
  have hownC : ∀ b, Own (mem0 e).h.get ρC b → Own st.h.get ρ b := fun b ⟨i, o', s, e1, e0, e2, e3, e4⟩ => by
    obtain ⟨o, x, h1, rfl, h3, h4⟩ := hgC i o' e1
    exact ⟨x, _, s, h4, bkO_isOwn (hco' i o h1), by rw [← hCof i x h3]; exact e2, e3, e4⟩
  have hfzC : ∀ b, Frz ρC b → Frz ρ b := fun b ⟨i, s, h1, h2⟩ => by
    obtain ⟨x, _, h4⟩ := hC i s h1
    exact ⟨x, s, h4, h2⟩
  have hwC : WR ρC (mem0 e).h.get w := by
    refine ⟨fun i s h1 h2 => ?_, fun i o' h1 => ?_, fun a b oa ob sa sb ea eb eo ra rb va vb heq => ?_, fun b hb => ?_, fun b hb => ?_⟩
    · obtain ⟨x, _, h4⟩ := hC i s h1
      exact hw.blk x s h4 h2
    · obtain ⟨o, x, k1, rfl, k3, k4⟩ := hgC i o' h1
      obtain ⟨s, m1, m2⟩ := hw.obj x _ k4
      exact ⟨s, by rw [hCof i x k3]; exact m1, bkO_cells H1 (hco' i o k1) m2⟩
    · obtain ⟨o1, x, k1, rfl, k3, k4⟩ := hgC a oa ea
      obtain ⟨o2, y, l1, rfl, l3, l4⟩ := hgC b ob eb
      have hxy := hw.inj x y _ _ sa sb k4 l4 (.inl (bkO_isOwn (hco' a o1 k1))) (by rw [← hCof a x k3]; exact ra) (by rw [← hCof b y l3]; exact rb) va vb heq
      subst hxy
      obtain ⟨hi1, hi2⟩ := List.getElem?_eq_some_iff.1 k3
      obtain ⟨hj1, hj2⟩ := List.getElem?_eq_some_iff.1 l3
      have hpw := List.pairwise_iff_getElem.1 hnd
      rcases Nat.lt_trichotomy a b with hlt | hlt | hlt
      · exact absurd (hi2.trans hj2.symm) (hpw a b hi1 hj1 hlt)
      · exact hlt
      · exact absurd (hj2.trans hi2.symm) (hpw b a hj1 hi1 hlt)
    · obtain ⟨h1, h2⟩ := hw.fz b (hfzC b hb)
      exact ⟨h1, fun h => h2 (hownC b h)⟩
    · obtain ⟨h1, h2, h3⟩ := hw.gl b hb
      exact ⟨h1, h2, fun h => h3 (hownC b h)⟩
  have hvC : VRL ρC (args0M e) args'.toList := VRL.bk H1 (by rw [← hargs]; exact hv)
  refine (hlaw w ρC args' hwC hvC (fun x hx => by rw [hρC]; simp only; rw [List.getElem?_eq_none (by omega)]; rfl)).mono fun q w' he => ?_
  obtain ⟨ρ2, g2, n2, nm, nm1, nm2, nm3, ⟨v', rfl, hv'⟩, M, hsame, hnew⟩ := he
  generalize hμ : lkAt e.objs.length nm = μ at hv' hnew
  have hk2 : ∀ i x, keep[i]? = some x → ∃ s o, e.objs[i]? = some o ∧ ρ x = some s ∧ ρ2 i = some s ∧ ρC i = some s ∧ g2 i = some (bkO (lkN 0 e.objs.length) o) ∧ st.h.get x = some (bkO (lkK keep) o) := fun i x h => by
    have hil : i < e.objs.length := by have := (List.getElem?_eq_some_iff.1 h).1; omega
    have ho : e.objs[i]? = some e.objs[i] := List.getElem?_eq_getElem hil
    obtain ⟨x', h1, h2⟩ := hko i _ ho
    rw [h] at h1; cases h1
    obtain ⟨s, m1, _⟩ := hw.obj x _ h2
    have hcs : ρC i = some s := by rw [hCof i x h]; exact m1
    exact ⟨s, _, ho, m1, M.ext i s hcs, hcs, hsame i _ ho, h2⟩
  obtain ⟨ρ', hρ'⟩ : ∃ ρ' : Rho, ρ' = fun a => if st.next ≤ a ∧ a < st.next + e.news.length then (nm[a - st.next]?).bind ρ2 else ρ a := ⟨_, rfl⟩
  have hρn : ∀ (j x : Nat), nm[j]? = some x → ρ' (st.next + j) = ρ2 x := fun j x hj => by
    have hjl := (List.getElem?_eq_some_iff.1 hj).1
    rw [hρ']; simp only
    rw [if_pos (by omega), show st.next + j - st.next = j by omega, hj]; rfl
  have hρo : ∀ a, ¬ (st.next ≤ a ∧ a < st.next + e.news.length) → ρ' a = ρ a := fun a ha => by rw [hρ']; simp only; rw [if_neg ha]
  have hρs : ∀ a t, ρ a = some t → ¬ (st.next ≤ a ∧ a < st.next + e.news.length) := fun a t ht hin => by
    rw [hfr a hin.1 hin.2] at ht; cases ht
  have hsub : Sub ρ ρ' := fun a t ht => by rw [hρo a (hρs a t ht)]; exact ht
  have hin : ∀ a, st.next ≤ a ∧ a < st.next + e.news.length → ∃ j x, a = st.next + j ∧ nm[j]? = some x ∧ ρ' a = ρ2 x := fun a ha => by
    obtain ⟨j, rfl⟩ : ∃ j, a = st.next + j := ⟨a - st.next, by omega⟩
    have hjl : j < nm.length := by omega
    exact ⟨j, nm[j], rfl, List.getElem?_eq_getElem hjl, hρn _ _ (List.getElem?_eq_getElem hjl)⟩
  have hμlt : ∀ i, i < e.objs.length → μ i = some i := fun i hi => by
    rw [← hμ]
    have : Nat.blt i e.objs.length = true := by simpa using hi
    simp only [lkAt, this, cond_true]
  have hμge : ∀ i, e.objs.length ≤ i → μ i = nm[i - e.objs.length]? := fun i hi => by
    rw [← hμ]
    have : Nat.blt i e.objs.length = false := by
      cases hq : Nat.blt i e.objs.length with
      | false => rfl
      | true => have := blt_lt hq; omega
    simp only [lkAt, this, cond_false]
  have hνc : ∀ i a, ν i = some a → keep[i]? = some a ∨ (keep.length ≤ i ∧ i < keep.length + e.news.length ∧ a = st.next + (i - keep.length)) := fun i a h => by
    rw [← hν] at h
    simp only [lkM] at h
    split at h
    · rename_i a' ha'; cases h; exact .inl ha'
    · rename_i hn
      cases hb : Nat.blt i (keep.length + e.news.length) with
      | false => rw [hb] at h; cases h
      | true =>
        rw [hb] at h
        simp only [cond_true, Option.some.injEq] at h
        exact .inr ⟨by simpa using hn, blt_lt hb, h.symm⟩
  have H3 : LkR μ ν ρ2 ρ' := by
    refine ⟨fun i a hi => ?_, fun i x a s hx ha hs => ?_⟩
    · rcases hνc i a hi with h1 | ⟨h1, h2, _⟩
      · have := (List.getElem?_eq_some_iff.1 h1).1
        exact ⟨i, hμlt i (by omega)⟩
      · have hjl : i - e.objs.length < nm.length := by omega
        exact ⟨nm[i - e.objs.length], by rw [hμge i (by omega)]; exact List.getElem?_eq_getElem hjl⟩
    · rcases hνc i a ha with h1 | ⟨h1, h2, rfl⟩
      · have hil := (List.getElem?_eq_some_iff.1 h1).1
        rw [hμlt i (by omega)] at hx
        cases hx
        obtain ⟨s', o, k1, k2, k3, _⟩ := hk2 i a h1
        rw [hs] at k3; cases k3
        exact ⟨s, hsub a s k2, ⟨rfl, rfl, rfl, rfl, rfl, rfl⟩⟩
      · rw [hμge i (by omega)] at hx
        refine ⟨s, ?_, ⟨rfl, rfl, rfl, rfl, rfl, rfl⟩⟩
        rw [hkl, hρn _ x hx]; exact hs
  have H2 : LkR (lkN 0 e.objs.length) (lkK keep) ρ2 ρ' := by
    refine ⟨fun i a hi => ?_, fun i x a s hx ha hs => ?_⟩
    · have hi : keep[i]? = some a := hi
      have := (List.getElem?_eq_some_iff.1 hi).1
      exact ⟨i, lkN0_of (by omega)⟩
    · obtain ⟨_, rfl⟩ := lkN0 hx
      have ha : keep[x]? = some a := ha
      obtain ⟨s', o, k1, k2, k3, _⟩ := hk2 x a ha
      rw [hs] at k3; cases k3
      exact ⟨s, hsub a s k2, ⟨rfl, rfl, rfl, rfl, rfl, rfl⟩⟩
  have hold : ∀ a o, st'.h.get a = some o → (¬ (st.next ≤ a ∧ a < st.next + e.news.length) ∧ st.h.get a = some o ∧ ρ' a = ρ a) ∨ ∃ j x o0, a = st.next + j ∧ nm[j]? = some x ∧ e.news[j]? = some o0 ∧ o = bkO ν o0 ∧ ρ' a = ρ2 x ∧ g2 x = some (bkO μ o0) := fun a o ha => by
    rw [hsg a] at ha
    by_cases hr : st.next ≤ a ∧ a < st.next + e.news.length
    · rw [if_pos hr] at ha
      obtain ⟨j, x, h1, h2, h3⟩ := hin a hr
      subst h1
      rw [show st.next + j - st.next = j by omega] at ha
      cases ho : e.news[j]? with
      | none => rw [ho] at ha; cases ha
      | some o0 =>
        rw [ho] at ha
        simp only [Option.map_some, Option.some.injEq] at ha
        obtain ⟨x', q1, q2⟩ := hnew j o0 ho
        rw [h2] at q1; cases q1
        exact .inr ⟨j, x, o0, rfl, h2, ho, ha.symm, h3, q2⟩
    · rw [if_neg hr] at ha
      exact .inl ⟨hr, ha, hρo a hr⟩
  have hframe : ∀ b, b < w.heap.size → ¬ Own st.h.get ρ b → w'.heap[b]? = w.heap[b]? := fun b hb hno => M.frm b hb fun h => hno (hownC b h)
  -- a block of a kept one is its own behind it, too
  have hkown : ∀ b, Own (mem0 e).h.get ρC b → ∃ i o s, e.objs[i]? = some o ∧ ρ2 i = some s ∧ g2 i = some (bkO (lkN 0 e.objs.length) o) ∧ i < e.objs.length ∧ s.void = false ∧ s.blk = b := fun b ⟨i, o', s, e1, e0, e2, e3, e4⟩ => by
    obtain ⟨o, x, h1, rfl, h3, h4⟩ := hgC i o' e1
    exact ⟨i, o, s, h1, M.ext i s e2, hsame i o h1, (List.getElem?_eq_some_iff.1 h1).1, e3, e4⟩
  have hnewblk : ∀ (j x : Nat) (o0 : AObj) (s : Spot), nm[j]? = some x → e.news[j]? = some o0 → ρ2 x = some s → s.void = false → w.heap.size ≤ s.blk := fun j x o0 s h1 h2 h3 h4 => by
    obtain ⟨x', q1, q2⟩ := hnew j o0 h2
    rw [h1] at q1; cases q1
    rcases M.own s.blk ⟨x, _, s, q2, bkO_isOwn (hcn' j o0 h2), h3, h4, rfl⟩ with h5 | h5
    · exact h5
    · exfalso
      obtain ⟨i, o, s2, k1, k2, k3, k4, k5, k6⟩ := hkown s.blk h5
      have := M.wr.inj x i _ _ s s2 q2 k3 (.inl (bkO_isOwn (hcn' j o0 h2))) h3 k2 h4 k5 k6.symm
      subst this
      have := nm3 x (List.mem_of_getElem? h1)
      omega
  have hown : ∀ b, Own st'.h.get ρ' b → w.heap.size ≤ b ∨ Own st.h.get ρ b := fun b ⟨a, o, s, e1, e0, e2, e3, e4⟩ => by
    rcases hold a o e1 with ⟨_, h2, h3⟩ | ⟨j, x, o0, _, h2, h3, rfl, h4, h5⟩
    · exact .inr ⟨a, o, s, h2, e0, by rw [← h3]; exact e2, e3, e4⟩
    · rw [h4] at e2
      rw [← e4]
      exact .inl (hnewblk j x o0 s h2 h3 e2 e3)
  have hfz : ∀ b, Frz ρ' b → Frz ρ b ∨ Frz ρ2 b := fun b ⟨a, t, h1, h2⟩ => by
    by_cases hr : st.next ≤ a ∧ a < st.next + e.news.length
    · obtain ⟨j, x, _, _, h5⟩ := hin a hr
      rw [h5] at h1
      exact .inr ⟨x, t, h1, h2⟩
    · rw [hρo a hr] at h1
      exact .inl ⟨a, t, h1, h2⟩
  have hkeepF : ∀ b, Frz ρ b → w'.heap[b]? = w.heap[b]? := fun b hb => hframe b (hw.fz b hb).1 (hw.fz b hb).2
  refine ⟨ρ', ⟨v', rfl, bkX_VR H3 hv'⟩, ⟨by omega, hsub, fun a s ha => ?_, M.size, hframe, hown, M.os, M.tape, M.output, ⟨fun a s ha hs => ?_, fun a o ha => ?_, fun a b oa ob sa sb ea eb eo ra rb va vb heq => ?_, fun b hb => ?_, ?_⟩, fun a o ha => ?_, fun a o ha ho => ?_, fun b hb => ?_⟩⟩
  · by_cases hr : st.next ≤ a ∧ a < st.next + e.news.length
    · exact .inr hr
    · rw [hρo a hr] at ha; exact .inl ha
  · by_cases hr : st.next ≤ a ∧ a < st.next + e.news.length
    · obtain ⟨j, x, _, _, h5⟩ := hin a hr
      rw [h5] at ha
      exact M.wr.blk x s ha hs
    · rw [hρo a hr] at ha
      exact Nat.lt_of_lt_of_le (hw.blk a s ha hs) M.size
  · rcases hold a o ha with ⟨hr, h2, h3⟩ | ⟨j, x, o0, _, h2, h3, rfl, h4, h5⟩
    · by_cases hka : a ∈ keep
      · obtain ⟨i, hi⟩ := List.getElem?_of_mem hka
        obtain ⟨s, o0, k1, k2, k3, _, k5, k6⟩ := hk2 i a hi
        rw [h2] at k6; cases k6
        obtain ⟨s2, m1, m2⟩ := M.wr.obj i _ k5
        rw [k3] at m1; cases m1
        exact ⟨s, hsub a s k2, bkO_cells H2 (hco' i o0 k1) m2⟩
      · obtain ⟨s, k1, k2⟩ := hw.obj a o h2
        refine ⟨s, hsub a s k1, k2.kept hsub (fun hv => M.frm _ (hw.blk a s k1 hv) fun ⟨i, o', s2, e1, e0, e2, e3, e4⟩ => ?_) hkeepF⟩
        obtain ⟨o1, y, l1, rfl, l3, l4⟩ := hgC i o' e1
        have := hw.inj a y o _ s s2 h2 l4 (.inr (bkO_isOwn (hco' i o1 l1))) k1 (by rw [← hCof i y l3]; exact e2) hv e3 e4.symm
        subst this
        exact hka (List.mem_of_getElem? l3)
    · obtain ⟨s, k1, k2⟩ := M.wr.obj x _ h5
      exact ⟨s, by rw [h4]; exact k1, bkO_cells H3 (hcn' j o0 h3) k2⟩
  · rcases hold a oa ea with ⟨ha1, ha2, ha3⟩ | ⟨j, x, o0, rfl, ha2, ha3, rfl, ha4, ha5⟩
    · rcases hold b ob eb with ⟨hb1, hb2, hb3⟩ | ⟨k, y, o1, rfl, hb2, hb3, rfl, hb4, hb5⟩
      · exact hw.inj a b oa ob sa sb ha2 hb2 eo (by rw [← ha3]; exact ra) (by rw [← hb3]; exact rb) va vb heq
      · exfalso
        have h1 := hnewblk k y o1 sb hb2 hb3 (by rw [← hb4]; exact rb) vb
        have h2 := hw.blk a sa (by rw [← ha3]; exact ra) va
        omega
    · rcases hold b ob eb with ⟨hb1, hb2, hb3⟩ | ⟨k, y, o1, rfl, hb2, hb3, rfl, hb4, hb5⟩
      · exfalso
        have h1 := hnewblk j x o0 sa ha2 ha3 (by rw [← ha4]; exact ra) va
        have h2 := hw.blk b sb (by rw [← hb3]; exact rb) vb
        omega
      · have hxy := M.wr.inj x y _ _ sa sb ha5 hb5 (.inl (bkO_isOwn (hcn' j o0 ha3))) (by rw [← ha4]; exact ra) (by rw [← hb4]; exact rb) va vb heq
        subst hxy
        obtain ⟨hi1, hi2⟩ := List.getElem?_eq_some_iff.1 ha2
        obtain ⟨hj1, hj2⟩ := List.getElem?_eq_some_iff.1 hb2
        have hpw := List.pairwise_iff_getElem.1 nm2
        rcases Nat.lt_trichotomy j k with hlt | hlt | hlt
        · exact absurd (hi2.trans hj2.symm) (hpw j k hi1 hj1 hlt)
        · rw [hlt]
        · exact absurd (hj2.trans hi2.symm) (hpw k j hj1 hi1 hlt)
  · rcases hfz b hb with h1 | h1
    · have h2 := hw.fz b h1
      refine ⟨Nat.lt_of_lt_of_le h2.1 M.size, fun h3 => ?_⟩
      rcases hown b h3 with h4 | h4
      · omega
      · exact h2.2 h4
    · have h2 := M.wr.fz b h1
      refine ⟨h2.1, fun ⟨a, o, s, e1, e0, e2, e3, e4⟩ => ?_⟩
      rcases hold a o e1 with ⟨hr, k2, k3⟩ | ⟨j, x, o0, _, k2, k3, rfl, k4, k5⟩
      · have hb1 : b < w.heap.size := by rw [← e4]; exact hw.blk a s (by rw [← k3]; exact e2) e3
        have hkept : Own (mem0 e).h.get ρC b → False := fun h => by
          obtain ⟨i, o1, s2, l1, l2, l3, _, l5, l6⟩ := hkown b h
          exact h2.2 ⟨i, _, s2, l3, bkO_isOwn (hco' i o1 l1), l2, l5, l6⟩
        rcases M.fzn b h1 with h5 | h5 | h5
        · exact (hw.fz b (hfzC b h5)).2 ⟨a, o, s, k2, e0, by rw [← k3]; exact e2, e3, e4⟩
        · omega
        · exact hkept h5
      · exact h2.2 ⟨x, _, s, k5, bkO_isOwn (hcn' j o0 k3), by rw [← k4]; exact e2, e3, e4⟩
  · exact gl_keep hw M.size hframe hown
  · rcases hold a o ha with ⟨_, h2, _⟩ | ⟨j, x, o0, rfl, h2, h3, _⟩
    · exact .inl ⟨o, h2⟩
    · have hjl := (List.getElem?_eq_some_iff.1 h3).1
      exact .inr ⟨by omega, by omega⟩
  · rcases hold a o ha with ⟨_, h2, _⟩ | ⟨j, x, o0, rfl, h2, h3, rfl, _⟩
    · exact .inl h2
    · rw [bkO_isOwn (hcn' j o0 h3)] at ho; cases ho
  · rcases hfz b hb with h1 | h1
    · exact .inl h1
    · rcases M.fzn b h1 with h5 | h5 | h5
      · exact .inl (hfzC b h5)
      · exact .inr (.inl h5)
      · exact .inr (.inr (hownC b h5))
/-- **what is told of it at places with memory may be told to the evaluator** -/
theorem mp_told {P : Program} {g : FuncId} {tab : List MPt} {ix : Nat → Nat} (htab : ∀ e ∈ tab, e.objs.all isCells = true ∧ e.news.all isCells = true ∧ MpOk P g e) : ∀ args st q st', Wf st → (mpC tab ix).run args st = .ok (q, st') → LoS st st' ∧ ∀ ρ w (args' : Array Value), VRL ρ args args'.toList → WR ρ st.h.get w → Fresh ρ st.next st'.next →
    Calls P g args' w fun e w' => ∃ ρ', EndR ρ' q e ∧ Mv ρ ρ' st.h.get st'.h.get st.next st'.next w w' := by
  intro args st q st' hwf hr
  simp only [mpC] at hr
  generalize hkeep : mpKeep args st = keep at hr
  split at hr
  rotate_left
  · cases hr
  rename_i e hfind
  obtain ⟨hnd, hr1⟩ := cond_ok hr
  clear hr
  have hnd := nodupC_spec hnd
  obtain ⟨hfit, hr1⟩ := cond_ok hr1
  have hmem : e ∈ tab := List.mem_of_getElem? hfind
  obtain ⟨hco, hcn, hlaw⟩ := htab e hmem
  simp only [mpFit, objsG_eq, Bool.and_eq_true] at hfit
  have hargs := sameYs_eq hfit.1
  obtain ⟨hkl, hko⟩ := objsB_spec hfit.2
  have hr := Rs.ok.inj hr1
  have hq : q = .returned (bkX (lkM keep st.next e.news.length) e.ret) := (congrArg Prod.fst hr).symm
  have hst : st' = newUps (lkM keep st.next e.news.length) e.news st := (congrArg Prod.snd hr).symm
  subst hq
  exact mp_core hco hcn hlaw hnd hargs hkl hko hst
/-- the run of it at one place -/
noncomputable def mpB (P : Program) (C : Told) (g : FuncId) (e : MPt) (nm : List Nat) : Bool := match funF P C 100000 100 g (args0M e) (mem0 e) with
  | .ok (.returned v, st) => sameX v (bkX (lkAt e.objs.length nm) e.ret) && nodupC nm && nm.all (fun x => Nat.ble e.objs.length x) && objsB (lkAt e.objs.length nm) st.h nm e.news && objsB (lkN 0 e.objs.length) st.h (List.range e.objs.length) e.objs && e.objs.all isCells && e.news.all isCells
  | _ => false
theorem mp_ok {P : Program} {C : Told} (hm : P.follows .mixedOrders = true) (hC : ToldS P C) {g : FuncId} {e : MPt} {nm : List Nat} (h : mpB P C g e nm = true) : e.objs.all isCells = true ∧ e.news.all isCells = true ∧ MpOk P g e := by
  unfold mpB at h
  rw [funF_eq] at h
  split at h
  · rename_i v st he
    simp only [Bool.and_eq_true] at h
    obtain ⟨⟨⟨⟨⟨⟨h1, h2⟩, h3⟩, h4⟩, h5⟩, h6⟩, h7⟩ := h
    have hv := sameX_eq h1
    subst hv
    obtain ⟨k1, k2⟩ := objsB_spec h4
    obtain ⟨l1, l2⟩ := objsB_spec h5
    refine ⟨h6, h7, fun w ρ args' hw hva hfr => ?_⟩
    have hn : (mem0 e).next = e.objs.length := by
      have := (newUps_get (μ := lkN 0 e.objs.length) (l := e.objs) (st := st0) (x := 0)).2
      show (mem0 e).next = _
      unfold mem0
      rw [this]
      show 0 + e.objs.length = _
      omega
    have hwf : Wf (mem0 e) := fun x o hx => by
      rw [hn]
      rw [mem0_get] at hx
      cases ho : e.objs[x]? with
      | none => rw [ho] at hx; cases hx
      | some o' => exact (List.getElem?_eq_some_iff.1 ho).1
    obtain ⟨_, h8⟩ := evFunC_sound hm hC 100000 100 g (args0M e) (mem0 e) _ st hwf he
    refine (h8 ρ w args' hva hw (fun x hx _ => hfr x (by omega))).mono fun q w' hq => ?_
    obtain ⟨ρ', ⟨v', e1, hv'⟩, hmv⟩ := hq
    rw [hn] at hmv
    refine ⟨ρ', st.h.get, st.next, nm, k1, nodupC_spec h2, fun x hx => ?_, ⟨v', e1, hv'⟩, hmv, fun i o ho => ?_, k2⟩
    · rw [List.all_eq_true] at h3
      exact ble_le (h3 x hx)
    · obtain ⟨x, m1, m2⟩ := l2 i o ho
      have : x = i := by
        rw [List.getElem?_range (by have := (List.getElem?_eq_some_iff.1 ho).1; omega)] at m1
        exact (Option.some.inj m1).symm
      subst this
      exact m2
  · cases h
noncomputable def Told.mp (C : Told) (g : FuncId) (tab : List MPt) (ix : Nat → Nat) : Told := fun f => cond (Nat.beq f g) (some (mpC tab ix)) (C f)
theorem Told.mp_ok {P : Program} {C : Told} (hC : ToldS P C) {g : FuncId} {tab : List MPt} (ix : Nat → Nat) (h : ∀ e ∈ tab, e.objs.all isCells = true ∧ e.news.all isCells = true ∧ MpOk P g e) : ToldS P (C.mp g tab ix) := by
  intro f c hc
  unfold Told.mp at hc
  cases hb : Nat.beq f g with
  | true =>
    rw [hb] at hc
    have := Nat.eq_of_beq_eq_true hb
    subst this
    cases hc
    exact mp_told h
  | false => rw [hb] at hc; exact hC f c hc
end Go.Proofs.YtpogcoolgnjejaaGreatDoor.Ev
/-
  Places with holes: what is handed in may hold numbers that are left open; what comes of it is told in them.
-/
set_option linter.unusedVariables false
set_option linter.unusedSimpArgs false
namespace Go.Proofs.YtpogcoolgnjejaaGreatDoor.Ev
open Go Go.RowKit

/-- what stands in the holes -/
structure Th where
  i : Nat → Int
  f : Nat → Nat
structure Env where
  i : List (Nat × Int)
  f : List (Nat × Nat)
def Env.nil : Env := ⟨[], []⟩
def hBase : Nat := 1000000000000000000000
def hI (n : Int) : Option Nat := match n with
  | .ofNat _ => none
  | .negSucc m => cond (Nat.ble hBase m) (some (m - hBase)) none
def hF (b : Nat) : Option Nat := cond (Nat.ble hBase b) (some (b - hBase)) none
/-- a leaf with its holes filled -/
def inS (θ : Th) : Value → Value
  | .int k n => match hI n with
    | some j => .int k (θ.i j)
    | none => .int k n
  | .float k b => match hF b with
    | some j => .float k (θ.f j)
    | none => .float k b
  | v => v
def inV (θ : Th) : Value → Value
  | .agg vs => .agg ⟨vs.toList.map (inS θ)⟩
  | .tuple vs => .tuple ⟨vs.toList.map (inS θ)⟩
  | v => inS θ v
def inX (θ : Th) : Value → Value
  | .tuple vs => .tuple ⟨vs.toList.map (inV θ)⟩
  | v => inV θ v
def inO (θ : Th) : AObj → AObj
  | .cells cs ex es => .cells (cs.map (inS θ)) ex es
  | o => o
theorem inO_isCells {θ : Th} {o : AObj} : isCells (inO θ o) = isCells o := by cases o <;> rfl

/-! ### looking at what stands in holes -/
def qHas {α : Type} (j : Nat) : List (Nat × α) → Bool
  | [] => false
  | p :: l => cond (Nat.beq p.1 j) true (qHas j l)
def qGet {α : Type} (d : α) (j : Nat) : List (Nat × α) → α
  | [] => d
  | p :: l => cond (Nat.beq p.1 j) p.2 (qGet d j l)
def Env.th (E : Env) : Th := ⟨fun j => qGet 0 j E.i, fun j => qGet 0 j E.f⟩
def kindB : IntKind → IntKind → Bool
  | a, b => a == b
def mtS (t v : Value) (E : Env) : Option Env := match t with
  | .int k n => match hI n with
    | some j => match v with
      | .int k' x => cond (k == k') (cond (qHas j E.i) none (some ⟨(j, x) :: E.i, E.f⟩)) none
      | _ => none
    | none => cond (sameW (.int k n) v) (some E) none
  | .float k b => match hF b with
    | some j => match v with
      | .float k' x => cond (k == k') (cond (qHas j E.f) none (some ⟨E.i, (j, x) :: E.f⟩)) none
      | _ => none
    | none => cond (sameW (.float k b) v) (some E) none
  | t => cond (sameW t v) (some E) none
def mtL : List Value → List Value → Env → Option Env
  | [], [], E => some E
  | t :: ts, v :: vs, E => match mtS t v E with
    | some E' => mtL ts vs E'
    | none => none
  | _, _, _ => none
def mtV (t v : Value) (E : Env) : Option Env := match t with
  | .agg a => (match v with
    | .agg b => mtL a.toList b.toList E
    | _ => none)
  | .tuple a => (match v with
    | .tuple b => mtL a.toList b.toList E
    | _ => none)
  | t => mtS t v E
def mtVs : List Value → List Value → Env → Option Env
  | [], [], E => some E
  | t :: ts, v :: vs, E => match mtV t v E with
    | some E' => mtVs ts vs E'
    | none => none
  | _, _, _ => none
def mtX (t v : Value) (E : Env) : Option Env := match t with
  | .tuple a => (match v with
    | .tuple b => mtVs a.toList b.toList E
    | _ => none)
  | t => mtV t v E
def mtO (t : AObj) (o : Option AObj) (E : Env) : Option Env := match t, o with
  | .cells cs ex es, some (.cells cs' ex' es') => cond (ex == ex') (cond (Nat.beq es es') (mtL cs cs' E) none) none
  | _, _ => none
noncomputable def mtOs (μ : Lk) (h : Tr AObj) : List Nat → List AObj → Env → Option Env
  | [], [], E => some E
  | x :: nm, o :: l, E => match mtO (bkO μ o) (hGet h x) E with
    | some E' => mtOs μ h nm l E'
    | none => none
  | _, _, _ => none

/-! ### what that says -/
structure Ext (E E' : Env) : Prop where
  i : ∀ j x, (j, x) ∈ E.i → (j, x) ∈ E'.i
  f : ∀ j x, (j, x) ∈ E.f → (j, x) ∈ E'.f
  oi : (E.i.map Prod.fst).Nodup → (E'.i.map Prod.fst).Nodup
  of : (E.f.map Prod.fst).Nodup → (E'.f.map Prod.fst).Nodup
theorem Ext.refl (E : Env) : Ext E E := ⟨fun _ _ h => h, fun _ _ h => h, fun h => h, fun h => h⟩
theorem Ext.trans {a b c : Env} (h : Ext a b) (k : Ext b c) : Ext a c := ⟨fun j x e => k.i j x (h.i j x e), fun j x e => k.f j x (h.f j x e), fun e => k.oi (h.oi e), fun e => k.of (h.of e)⟩
def Agr (θ : Th) (E : Env) : Prop := (∀ j x, (j, x) ∈ E.i → θ.i j = x) ∧ ∀ j x, (j, x) ∈ E.f → θ.f j = x
theorem Agr.of {θ : Th} {E E' : Env} (h : Agr θ E') (e : Ext E E') : Agr θ E := ⟨fun j x k => h.1 j x (e.i j x k), fun j x k => h.2 j x (e.f j x k)⟩
theorem qHas_false {α : Type} {j : Nat} : ∀ {l : List (Nat × α)}, qHas j l = false → j ∉ l.map Prod.fst := by
  intro l
  induction l with
  | nil => intro _ h; cases h
  | cons p l ih =>
    intro h hm
    simp only [qHas] at h
    cases hb : Nat.beq p.1 j with
    | true => rw [hb] at h; cases h
    | false =>
      rw [hb] at h
      rcases List.mem_cons.1 hm with e | e
      · have : Nat.beq p.1 j = true := by rw [← e]; exact Nat.beq_refl _
        rw [hb] at this; cases this
      · exact ih h e
theorem qGet_mem {α : Type} {d x : α} {j : Nat} : ∀ {l : List (Nat × α)}, (l.map Prod.fst).Nodup → (j, x) ∈ l → qGet d j l = x := by
  intro l
  induction l with
  | nil => intro _ h; cases h
  | cons p l ih =>
    intro hn h
    simp only [List.map_cons, List.nodup_cons] at hn
    simp only [qGet]
    rcases List.mem_cons.1 h with e | e
    · subst e; simp
    · cases hb : Nat.beq p.1 j with
      | true =>
        have := Nat.eq_of_beq_eq_true hb
        exact absurd (List.mem_map.2 ⟨_, e, this.symm⟩) hn.1
      | false => exact ih hn.2 e
theorem Env.agr {E : Env} (h : Ext Env.nil E) : Agr E.th E := ⟨fun j x k => qGet_mem (h.oi List.nodup_nil) k, fun j x k => qGet_mem (h.of List.nodup_nil) k⟩
theorem cond_some {α : Type} {c : Bool} {x : Option α} {y : α} (h : cond c x none = some y) : c = true ∧ x = some y := by
  cases c with
  | true => exact ⟨rfl, h⟩
  | false => cases h
theorem kind_eq {k k' : IntKind} (h : (k == k') = true) : k = k' := by cases k <;> cases k' <;> first | rfl | cases h
theorem fkind_eq {k k' : FloatKind} (h : (k == k') = true) : k = k' := by cases k <;> cases k' <;> first | rfl | cases h
theorem mtS_ok {t v : Value} {E E' : Env} (h : mtS t v E = some E') : Ext E E' ∧ ∀ θ, Agr θ E' → v = inS θ t := by
  have plain : ∀ {u : Value}, (∀ θ, inS θ u = u) → cond (sameW u v) (some E) none = some E' → Ext E E' ∧ ∀ θ, Agr θ E' → v = inS θ u := by
    intro u hu hh
    cases hs : sameW u v with
    | true =>
      rw [hs] at hh; cases hh
      exact ⟨Ext.refl _, fun θ _ => by rw [hu, sameW_eq hs]⟩
    | false => rw [hs] at hh; cases hh
  cases t with
  | int k n =>
    simp only [mtS] at h
    cases hn : hI n with
    | none => rw [hn] at h; exact plain (fun θ => by simp only [inS, hn]) h
    | some j =>
      rw [hn] at h
      cases v with
      | int k' x =>
        simp only at h
        cases hk : (k == k') with
        | false => rw [hk] at h; cases h
        | true =>
          rw [hk] at h
          simp only [cond_true] at h
          cases hh : qHas j E.i with
          | true => rw [hh] at h; cases h
          | false =>
            rw [hh] at h
            simp only [cond_false, Option.some.injEq] at h
            subst h
            refine ⟨⟨fun j' x' e => List.mem_cons_of_mem _ e, fun _ _ e => e, fun e => ?_, fun e => e⟩, fun θ hθ => ?_⟩
            · simp only [List.map_cons, List.nodup_cons]; exact ⟨qHas_false hh, e⟩
            · simp only [inS, hn]
              rw [hθ.1 j x (List.mem_cons_self ..), kind_eq hk]
      | _ => cases h
  | float k b =>
    simp only [mtS] at h
    cases hn : hF b with
    | none => rw [hn] at h; exact plain (fun θ => by simp only [inS, hn]) h
    | some j =>
      rw [hn] at h
      cases v with
      | float k' x =>
        simp only at h
        cases hk : (k == k') with
        | false => rw [hk] at h; cases h
        | true =>
          rw [hk] at h
          simp only [cond_true] at h
          cases hh : qHas j E.f with
          | true => rw [hh] at h; cases h
          | false =>
            rw [hh] at h
            simp only [cond_false, Option.some.injEq] at h
            subst h
            refine ⟨⟨fun _ _ e => e, fun j' x' e => List.mem_cons_of_mem _ e, fun e => e, fun e => ?_⟩, fun θ hθ => ?_⟩
            · simp only [List.map_cons, List.nodup_cons]; exact ⟨qHas_false hh, e⟩
            · simp only [inS, hn]
              rw [hθ.2 j x (List.mem_cons_self ..), fkind_eq hk]
      | _ => cases h
  | _ => exact plain (fun θ => rfl) h
theorem mtL_ok : ∀ {ts vs : List Value} {E E' : Env}, mtL ts vs E = some E' → Ext E E' ∧ ∀ θ, Agr θ E' → vs = ts.map (inS θ) := by
  intro ts
  induction ts with
  | nil => intro vs E E' h; cases vs with
    | nil => cases h; exact ⟨Ext.refl _, fun _ _ => rfl⟩
    | cons => cases h
  | cons t ts ih => intro vs E E' h; cases vs with
    | nil => cases h
    | cons v vs =>
      simp only [mtL] at h
      cases h1 : mtS t v E with
      | none => rw [h1] at h; cases h
      | some E1 =>
        rw [h1] at h
        obtain ⟨a1, a2⟩ := mtS_ok h1
        obtain ⟨b1, b2⟩ := ih h
        exact ⟨a1.trans b1, fun θ hθ => by rw [List.map_cons, ← b2 θ hθ, ← a2 θ (hθ.of b1)]⟩
theorem arr_of {a b : Array Value} {f : Value → Value} (e : b.toList = a.toList.map f) : b = ⟨a.toList.map f⟩ := by cases b; cases e; rfl
theorem mtV_ok {t v : Value} {E E' : Env} (h : mtV t v E = some E') : Ext E E' ∧ ∀ θ, Agr θ E' → v = inV θ t := by
  cases t with
  | agg a =>
    simp only [mtV] at h
    split at h
    · obtain ⟨h1, h2⟩ := mtL_ok h
      exact ⟨h1, fun θ hθ => by simp only [inV]; rw [← arr_of (h2 θ hθ)]⟩
    · cases h
  | tuple a =>
    simp only [mtV] at h
    split at h
    · obtain ⟨h1, h2⟩ := mtL_ok h
      exact ⟨h1, fun θ hθ => by simp only [inV]; rw [← arr_of (h2 θ hθ)]⟩
    · cases h
  | _ => simp only [mtV] at h; exact mtS_ok h
theorem mtVs_ok : ∀ {ts vs : List Value} {E E' : Env}, mtVs ts vs E = some E' → Ext E E' ∧ ∀ θ, Agr θ E' → vs = ts.map (inV θ) := by
  intro ts
  induction ts with
  | nil => intro vs E E' h; cases vs with
    | nil => cases h; exact ⟨Ext.refl _, fun _ _ => rfl⟩
    | cons => cases h
  | cons t ts ih => intro vs E E' h; cases vs with
    | nil => cases h
    | cons v vs =>
      simp only [mtVs] at h
      cases h1 : mtV t v E with
      | none => rw [h1] at h; cases h
      | some E1 =>
        rw [h1] at h
        obtain ⟨a1, a2⟩ := mtV_ok h1
        obtain ⟨b1, b2⟩ := ih h
        exact ⟨a1.trans b1, fun θ hθ => by rw [List.map_cons, ← b2 θ hθ, ← a2 θ (hθ.of b1)]⟩
theorem mtX_ok {t v : Value} {E E' : Env} (h : mtX t v E = some E') : Ext E E' ∧ ∀ θ, Agr θ E' → v = inX θ t := by
  cases t with
  | tuple a =>
    simp only [mtX] at h
    split at h
    · obtain ⟨h1, h2⟩ := mtVs_ok h
      exact ⟨h1, fun θ hθ => by simp only [inX]; rw [← arr_of (h2 θ hθ)]⟩
    · cases h
  | _ => simp only [mtX] at h; exact mtV_ok h
theorem mtO_ok {t : AObj} {o : Option AObj} {E E' : Env} (h : mtO t o E = some E') : Ext E E' ∧ ∀ θ, Agr θ E' → o = some (inO θ t) := by
  unfold mtO at h
  split at h
  · rename_i cs ex es cs' ex' es'
    obtain ⟨h1, h⟩ := cond_some h
    obtain ⟨h2, h⟩ := cond_some h
    obtain ⟨a1, a2⟩ := mtL_ok h
    refine ⟨a1, fun θ hθ => ?_⟩
    simp only [inO]
    rw [a2 θ hθ, eq_of_beq h1, Nat.eq_of_beq_eq_true h2]
  · cases h
theorem mtOs_ok {μ : Lk} {h : Tr AObj} : ∀ {nm : List Nat} {l : List AObj} {E E' : Env}, mtOs μ h nm l E = some E' → Ext E E' ∧ nm.length = l.length ∧ ∀ θ, Agr θ E' → ∀ (i : Nat) (o : AObj), l[i]? = some o → ∃ x, nm[i]? = some x ∧ h.get x = some (inO θ (bkO μ o)) := by
  intro nm
  induction nm with
  | nil => intro l E E' hh; cases l with
    | nil => cases hh; exact ⟨Ext.refl _, rfl, fun θ _ i o ho => by simp at ho⟩
    | cons => cases hh
  | cons x nm ih => intro l E E' hh; cases l with
    | nil => cases hh
    | cons o l =>
      simp only [mtOs] at hh
      cases h1 : mtO (bkO μ o) (hGet h x) E with
      | none => rw [h1] at hh; cases hh
      | some E1 =>
        rw [h1] at hh
        obtain ⟨a1, a2⟩ := mtO_ok h1
        obtain ⟨b1, b2, b3⟩ := ih hh
        refine ⟨a1.trans b1, by simp [b2], fun θ hθ i o' ho => ?_⟩
        cases i with
        | zero =>
          cases ho
          exact ⟨x, rfl, by rw [← hGet_eq]; exact a2 θ (hθ.of b1)⟩
        | succ i => exact b3 θ hθ i o' ho

/-! ### names and holes do not meddle -/
theorem bk_inS (μ : Lk) (θ : Th) (v : Value) : bk μ (inS θ v) = inS θ (bk μ v) := by
  have hb : inS θ bad = bad := rfl
  cases v with
  | int k n => simp only [inS, bk]; cases hI n <;> rfl
  | float k b => simp only [inS, bk]; cases hF b <;> rfl
  | pointer p => cases p with
    | none => rfl
    | some a => simp only [inS, bk, bkA]; cases μ a.block <;> rfl
  | slice p n c => cases p with
    | none => cases n with
      | zero => cases c <;> rfl
      | succ n => rfl
    | some a => simp only [inS, bk, bkA]; cases μ a.block <;> rfl
  | map p => cases p with
    | none => rfl
    | some r => simp only [inS, bk]; cases μ r <;> rfl
  | _ => rfl
theorem bkV_inV (μ : Lk) (θ : Th) (v : Value) : bkV μ (inV θ v) = inV θ (bkV μ v) := by
  have l : ∀ vs : List Value, (vs.map (inS θ)).map (bk μ) = (vs.map (bk μ)).map (inS θ) := fun vs => by
    simp only [List.map_map]
    exact List.map_congr_left fun x _ => bk_inS μ θ x
  have nv : ∀ u, bk μ u = bad ∨ (∀ a, bk μ u ≠ .agg a) ∧ ∀ a, bk μ u ≠ .tuple a := fun u => by
    cases u with
    | pointer p => cases p with
      | none => exact .inr ⟨by simp [bk], by simp [bk]⟩
      | some a => simp only [bk, bkA]; cases μ a.block <;> simp [bad]
    | slice p n c => cases p with
      | none => cases n with
        | zero => cases c <;> simp [bk, bad]
        | succ n => simp [bk, bad]
      | some a => simp only [bk, bkA]; cases μ a.block <;> simp [bad]
    | map p => cases p with
      | none => simp [bk]
      | some r => simp only [bk]; cases μ r <;> simp [bad]
    | _ => simp [bk, bad]
  have ns : ∀ u, inV θ (bk μ u) = inS θ (bk μ u) := fun u => by
    rcases nv u with h | ⟨h1, h2⟩
    · rw [h]; rfl
    · cases hu : bk μ u with
      | agg a => exact absurd hu (h1 a)
      | tuple a => exact absurd hu (h2 a)
      | _ => rfl
  cases v with
  | agg vs => simp only [inV, bkV, l]
  | tuple vs => simp only [inV, bkV, l]
  | int k n =>
    show bkV μ (inS θ (.int k n)) = inV θ (bk μ (.int k n))
    rw [ns, ← bk_inS μ θ (.int k n)]
    simp only [inS]
    cases hI n <;> rfl
  | float k b =>
    show bkV μ (inS θ (.float k b)) = inV θ (bk μ (.float k b))
    rw [ns, ← bk_inS μ θ (.float k b)]
    simp only [inS]
    cases hF b <;> rfl
  | bool b => exact (bk_inS μ θ (.bool b)).trans (ns _).symm
  | string b => exact (bk_inS μ θ (.string b)).trans (ns _).symm
  | complex k a b => exact (bk_inS μ θ (.complex k a b)).trans (ns _).symm
  | pointer p => exact (bk_inS μ θ (.pointer p)).trans (ns _).symm
  | slice p n c => exact (bk_inS μ θ (.slice p n c)).trans (ns _).symm
  | map p => exact (bk_inS μ θ (.map p)).trans (ns _).symm
  | nilFunc => exact (bk_inS μ θ .nilFunc).trans (ns _).symm
  | nilIface => exact (bk_inS μ θ .nilIface).trans (ns _).symm
  | chan r => exact (bk_inS μ θ (.chan r)).trans (ns _).symm
  | func f a b => exact (bk_inS μ θ (.func f a b)).trans (ns _).symm
  | iface t v => exact (bk_inS μ θ (.iface t v)).trans (ns _).symm
theorem bkO_inO (μ : Lk) (θ : Th) (o : AObj) (hc : isCells o = true) : bkO μ (inO θ o) = inO θ (bkO μ o) := by
  cases o with
  | cells cs ex es =>
    simp only [inO, bkO, List.map_map]
    congr 1
    exact List.map_congr_left fun x _ => bk_inS μ θ x
  | _ => cases hc
theorem bkX_inX (μ : Lk) (θ : Th) (v : Value) : bkX μ (inX θ v) = inX θ (bkX μ v) := by
  have l : ∀ vs : List Value, (vs.map (inV θ)).map (bkV μ) = (vs.map (bkV μ)).map (inV θ) := fun vs => by
    simp only [List.map_map]
    exact List.map_congr_left fun x _ => bkV_inV μ θ x
  have nt : ∀ u, (∀ a, u ≠ .tuple a) → (∀ a, bkV μ u ≠ .tuple a) := fun u hu a h => by
    cases u with
    | tuple a => exact hu a rfl
    | agg a => simp [bkV] at h
    | pointer p => cases p with
      | none => simp [bkV, bk] at h
      | some a => simp only [bkV, bk, bkA] at h; cases hm : μ a.block <;> simp [hm, bad] at h
    | slice p n c => cases p with
      | none => cases n with
        | zero => cases c <;> simp [bkV, bk, bad] at h
        | succ n => simp [bkV, bk, bad] at h
      | some a => simp only [bkV, bk, bkA] at h; cases hm : μ a.block <;> simp [hm, bad] at h
    | map p => cases p with
      | none => simp [bkV, bk] at h
      | some r => simp only [bkV, bk] at h; cases hm : μ r <;> simp [hm, bad] at h
    | _ => simp [bkV, bk, bad] at h
  have xs : ∀ u, (∀ a, u ≠ .tuple a) → inX θ u = inV θ u := fun u hu => by
    cases u with
    | tuple a => exact absurd rfl (hu a)
    | _ => rfl
  have bs : ∀ u, (∀ a, u ≠ .tuple a) → bkX μ u = bkV μ u := fun u hu => by
    cases u with
    | tuple a => exact absurd rfl (hu a)
    | _ => rfl
  have nv : ∀ u, (∀ a, u ≠ .tuple a) → ∀ a, inV θ u ≠ .tuple a := fun u hu a h => by
    cases u with
    | tuple a => exact hu a rfl
    | int k n => simp only [inV, inS] at h; cases hh : hI n <;> simp [hh] at h
    | float k b => simp only [inV, inS] at h; cases hh : hF b <;> simp [hh] at h
    | _ => simp [inV, inS] at h
  by_cases hv : ∃ a, v = .tuple a
  · obtain ⟨a, rfl⟩ := hv
    simp only [inX, bkX, l]
  · have hv : ∀ a, v ≠ .tuple a := fun a h => hv ⟨a, h⟩
    rw [xs v hv, bs _ (nv v hv), bs v hv, xs _ (nt v hv), bkV_inV]

/-! ### places with holes -/
structure MQt where
  args : List Value
  objs : List AObj
  ret : Value
  news : List AObj
  out : Th → Env
  ok : Th → Bool
def MQt.at (e : MQt) (θ : Th) : MPt := ⟨e.args.map (inV θ), e.objs.map (inO θ), inX (e.out θ).th e.ret, e.news.map (inO (e.out θ).th)⟩
def MqOk (P : Program) (g : FuncId) (e : MQt) : Prop := e.objs.all isCells = true ∧ e.news.all isCells = true ∧ ∀ θ, e.ok θ = true → MpOk P g (e.at θ)
noncomputable def mqTry (keep : List Nat) (args : List Value) (h : Tr AObj) : List MQt → Option (MQt × Env)
  | [] => none
  | e :: l => match mtVs (e.args.map (bkV (lkK keep))) args Env.nil with
    | some E => (match mtOs (lkK keep) h keep e.objs E with
      | some E2 => some (e, E2)
      | none => mqTry keep args h l)
    | none => mqTry keep args h l
theorem mqTry_ok {keep : List Nat} {args : List Value} {h : Tr AObj} : ∀ {l : List MQt} {e : MQt} {E2 : Env}, mqTry keep args h l = some (e, E2) → e ∈ l ∧ ∃ E, mtVs (e.args.map (bkV (lkK keep))) args Env.nil = some E ∧ mtOs (lkK keep) h keep e.objs E = some E2 := by
  intro l
  induction l with
  | nil => intro e E2 h; cases h
  | cons a l ih =>
    intro e E2 hh
    simp only [mqTry] at hh
    split at hh
    · rename_i E hE
      split at hh
      · rename_i E3 hE3
        cases hh
        exact ⟨List.mem_cons_self .., E, hE, hE3⟩
      · obtain ⟨h1, h2⟩ := ih hh
        exact ⟨List.mem_cons_of_mem _ h1, h2⟩
    · obtain ⟨h1, h2⟩ := ih hh
      exact ⟨List.mem_cons_of_mem _ h1, h2⟩
def selQ (tabs : List (List MQt)) (n : Nat) : List MQt := match tabs[n]? with
  | some l => l
  | none => []
theorem selQ_mem {tabs : List (List MQt)} {n : Nat} {e : MQt} (h : e ∈ selQ tabs n) : ∃ l ∈ tabs, e ∈ l := by
  unfold selQ at h
  split at h
  · rename_i l hl; exact ⟨l, List.mem_of_getElem? hl, h⟩
  · cases h
/-- which of the places may be it, a number says that is looked up in what is handed in -/
noncomputable def mqC (tabs : List (List MQt)) (key : List Value → Tr AObj → Nat) : TCon where
  run args st := cond (nodupC (mpKeep args st)) (match mqTry (mpKeep args st) args st.h (selQ tabs (key args st.h)) with
    | some (e, E2) => cond (e.ok E2.th) (.ok (.returned (bkX (lkM (mpKeep args st) st.next e.news.length) (inX (e.out E2.th).th e.ret)), newUps (lkM (mpKeep args st) st.next e.news.length) (e.news.map (inO (e.out E2.th).th)) st)) (.er "a place that may not be")
    | none => .er "no such place") (.er "names")
  sym args st K := cond (nodupC (mpKeep args st)) (match mqTry (mpKeep args st) args st.h (selQ tabs (key args st.h)) with
    | some (e, E2) => need (e.ok E2.th) (K (.returned (bkX (lkM (mpKeep args st) st.next e.news.length) (inX (e.out E2.th).th e.ret))) (newUps (lkM (mpKeep args st) st.next e.news.length) (e.news.map (inO (e.out E2.th).th)) st))
    | none => False) False
  ok args st K h := by
    cases hc : nodupC (mpKeep args st) with
    | false => rw [hc] at h; exact h.elim
    | true =>
      rw [hc] at h
      simp only [cond_true] at h ⊢
      split at h
      · rename_i e E2 he
        obtain ⟨h1, h2⟩ := need_elim h
        simp only [h1, cond_true]
        exact ⟨_, _, rfl, h2⟩
      · exact h.elim
theorem all_inO {θ : Th} {l : List AObj} (h : l.all isCells = true) : (l.map (inO θ)).all isCells = true := by
  rw [List.all_eq_true] at h ⊢
  intro o ho
  obtain ⟨o', h1, rfl⟩ := List.mem_map.1 ho
  rw [inO_isCells]; exact h o' h1
theorem mq_told {P : Program} {g : FuncId} {tabs : List (List MQt)} {key : List Value → Tr AObj → Nat} (htab : ∀ l ∈ tabs, ∀ e ∈ l, MqOk P g e) : ∀ args st q st', Wf st → (mqC tabs key).run args st = .ok (q, st') → LoS st st' ∧ ∀ ρ w (args' : Array Value), VRL ρ args args'.toList → WR ρ st.h.get w → Fresh ρ st.next st'.next →
    Calls P g args' w fun e w' => ∃ ρ', EndR ρ' q e ∧ Mv ρ ρ' st.h.get st'.h.get st.next st'.next w w' := by
  intro args st q st' hwf hr
  simp only [mqC] at hr
  generalize hkeep : mpKeep args st = keep at hr
  obtain ⟨hnd, hr1⟩ := cond_ok hr
  clear hr
  have hnd := nodupC_spec hnd
  split at hr1
  rotate_left
  · cases hr1
  rename_i e E2 hfind
  obtain ⟨hmem, E, hE, hE2⟩ := mqTry_ok hfind
  obtain ⟨l, hl1, hl2⟩ := selQ_mem hmem
  obtain ⟨hco, hcn, hlaw⟩ := htab l hl1 e hl2
  obtain ⟨hokE, hr1⟩ := cond_ok hr1
  obtain ⟨a1, a2⟩ := mtVs_ok hE
  obtain ⟨b1, b2, b3⟩ := mtOs_ok hE2
  have hag : Agr E2.th E2 := Env.agr (a1.trans b1)
  have hargs : args = (e.at E2.th).args.map (bkV (lkK keep)) := by
    rw [a2 E2.th (hag.of b1)]
    simp only [MQt.at, List.map_map]
    exact List.map_congr_left fun x _ => (bkV_inV _ _ x).symm
  have hkl : keep.length = (e.at E2.th).objs.length := by simp only [MQt.at, List.length_map]; exact b2
  have hko : ∀ (i : Nat) (o : AObj), (e.at E2.th).objs[i]? = some o → ∃ x, keep[i]? = some x ∧ st.h.get x = some (bkO (lkK keep) o) := fun i o ho => by
    simp only [MQt.at, List.getElem?_map] at ho
    cases hq : e.objs[i]? with
    | none => rw [hq] at ho; cases ho
    | some o0 =>
      rw [hq] at ho; cases ho
      obtain ⟨x, h1, h2⟩ := b3 E2.th hag i o0 hq
      exact ⟨x, h1, by rw [h2, bkO_inO _ _ _ (by rw [List.all_eq_true] at hco; exact hco o0 (List.mem_of_getElem? hq))]⟩
  have hnl : (e.at E2.th).news.length = e.news.length := by simp only [MQt.at, List.length_map]
  have hr := Rs.ok.inj hr1
  have hlaw2 := hlaw E2.th hokE
  have hq : q = .returned (bkX (lkM keep st.next (e.at E2.th).news.length) (e.at E2.th).ret) := by rw [hnl]; exact (congrArg Prod.fst hr).symm
  have hst : st' = newUps (lkM keep st.next (e.at E2.th).news.length) (e.at E2.th).news st := by rw [hnl]; exact (congrArg Prod.snd hr).symm
  subst hq
  exact mp_core (e := e.at E2.th) (all_inO hco) (all_inO hcn) hlaw2 hnd hargs hkl hko hst
/-- the holes as they are -/
def idE (θ : Th) (li lf : List Nat) : Env := ⟨li.map fun j => (j, θ.i j), lf.map fun j => (j, θ.f j)⟩
theorem idE_agr {θ : Th} {li lf : List Nat} : Agr θ (idE θ li lf) := by
  constructor
  · intro j x h
    obtain ⟨k, _, e⟩ := List.mem_map.1 h
    cases e; rfl
  · intro j x h
    obtain ⟨k, _, e⟩ := List.mem_map.1 h
    cases e; rfl
/-- what a run came to, told by the holes -/
noncomputable def mqE (e : MQt) (nm : List Nat) (v : Value) (st : ASt) : Option (Env × Env) := cond (nodupC nm && nm.all (fun x => Nat.ble e.objs.length x) && e.objs.all isCells && e.news.all isCells) (match mtX (bkX (lkAt e.objs.length nm) e.ret) v Env.nil with
    | some E => (match mtOs (lkAt e.objs.length nm) st.h nm e.news E with
      | some E2 => (match mtOs (lkN 0 e.objs.length) st.h (List.range e.objs.length) e.objs Env.nil with
        | some E3 => some (E2, E3)
        | none => none)
      | none => none)
    | none => none) none
/-- new names that an answer leads to -/
noncomputable def mqN (n : Nat) (v : Value) (st : ASt) : List Nat := (rchF st.h 100000 (idsV 4 v) .leaf []).reverse.filter fun x => !(Nat.blt x n)
/-- the run of it at one place, whatever stands in the holes -/
noncomputable def mqB (P : Program) (C : Told) (g : FuncId) (e : MQt) (θ : Th) : Option (Env × Env) := match funF P C 100000 100 g (args0M (e.at θ)) (mem0 (e.at θ)) with
  | .ok (.returned v, st) => mqE e (mqN e.objs.length v st) v st
  | _ => none
theorem mq_one {P : Program} {C : Told} (hm : P.follows .mixedOrders = true) (hC : ToldS P C) {g : FuncId} {e : MQt} {li lf : List Nat} {θ : Th} (h : mqB P C g e θ = some (e.out θ, idE θ li lf)) : MpOk P g (e.at θ) ∧ e.objs.all isCells = true ∧ e.news.all isCells = true := by
  have h0 : ∃ v st nm, funF P C 100000 100 g (args0M (e.at θ)) (mem0 (e.at θ)) = .ok (.returned v, st) ∧ nm.Nodup ∧ (∀ x ∈ nm, e.objs.length ≤ x) ∧ e.objs.all isCells = true ∧ e.news.all isCells = true ∧ v = inX (e.out θ).th (bkX (lkAt e.objs.length nm) e.ret) ∧
      nm.length = e.news.length ∧ (∀ (i : Nat) (o : AObj), e.news[i]? = some o → ∃ x, nm[i]? = some x ∧ st.h.get x = some (inO (e.out θ).th (bkO (lkAt e.objs.length nm) o))) ∧
      ∀ (i : Nat) (o : AObj), e.objs[i]? = some o → st.h.get i = some (inO θ (bkO (lkN 0 e.objs.length) o)) := by
    unfold mqB at h
    split at h
    rotate_left
    · cases h
    rename_i v st he
    generalize mqN e.objs.length v st = nm at h
    unfold mqE at h
    obtain ⟨hc, h⟩ := cond_some h
    simp only [Bool.and_eq_true] at hc
    obtain ⟨⟨⟨h2, h3⟩, h6⟩, h7⟩ := hc
    split at h
    rotate_left
    · cases h
    rename_i E hE
    split at h
    rotate_left
    · cases h
    rename_i E2 hE2
    split at h
    rotate_left
    · cases h
    rename_i E3 hE3
    simp only [Option.some.injEq, Prod.mk.injEq] at h
    obtain ⟨e2, e3⟩ := h
    subst e2
    subst e3
    obtain ⟨a1, a2⟩ := mtX_ok hE
    obtain ⟨b1, b2, b3⟩ := mtOs_ok hE2
    obtain ⟨c1, c2, c3⟩ := mtOs_ok hE3
    have hag : Agr (e.out θ).th (e.out θ) := Env.agr (a1.trans b1)
    refine ⟨v, st, nm, he, nodupC_spec h2, fun x hx => ?_, h6, h7, a2 _ (hag.of b1), b2, fun i o ho => b3 _ hag i o ho, fun i o ho => ?_⟩
    · rw [List.all_eq_true] at h3
      exact ble_le (h3 x hx)
    · obtain ⟨x, m1, m2⟩ := c3 θ idE_agr i o ho
      have : x = i := by
        rw [List.getElem?_range (by have := (List.getElem?_eq_some_iff.1 ho).1; omega)] at m1
        exact (Option.some.inj m1).symm
      subst this
      exact m2
  obtain ⟨v, st, nm, he, hnd, hge, hco, hcn, hv, hnl, hnew, hold⟩ := h0
  refine ⟨?_, hco, hcn⟩
  have hol : (e.at θ).objs.length = e.objs.length := by simp only [MQt.at, List.length_map]
  rw [funF_eq] at he
  intro w ρ args' hw hva hfr
  have hn : (mem0 (e.at θ)).next = e.objs.length := by
    have := (newUps_get (μ := lkN 0 (e.at θ).objs.length) (l := (e.at θ).objs) (st := st0) (x := 0)).2
    show (mem0 (e.at θ)).next = _
    unfold mem0
    rw [this, hol]
    show 0 + e.objs.length = _
    omega
  have hwf : Wf (mem0 (e.at θ)) := fun x o hx => by
    rw [hn]
    rw [mem0_get] at hx
    cases ho : (e.at θ).objs[x]? with
    | none => rw [ho] at hx; cases hx
    | some o' => rw [← hol]; exact (List.getElem?_eq_some_iff.1 ho).1
  obtain ⟨_, h8⟩ := evFunC_sound hm hC 100000 100 g (args0M (e.at θ)) (mem0 (e.at θ)) _ st hwf he
  refine (h8 ρ w args' hva hw (fun x hx _ => hfr x (by omega))).mono fun q w' hq => ?_
  obtain ⟨ρ', ⟨v', e1, hv'⟩, hmv⟩ := hq
  rw [hn] at hmv
  rw [hol]
  refine ⟨ρ', st.h.get, st.next, nm, by simp only [MQt.at, List.length_map]; exact hnl, hnd, hge, ⟨v', e1, ?_⟩, hmv, fun i o ho => ?_, fun j o ho => ?_⟩
  · show VR ρ' (bkX (lkAt e.objs.length nm) (inX (e.out θ).th e.ret)) v'
    rw [bkX_inX, ← hv]; exact hv'
  · simp only [MQt.at, List.getElem?_map] at ho
    cases hq : e.objs[i]? with
    | none => rw [hq] at ho; cases ho
    | some o0 =>
      rw [hq] at ho; cases ho
      rw [hold i o0 hq, bkO_inO _ _ _ (by rw [List.all_eq_true] at hco; exact hco o0 (List.mem_of_getElem? hq))]
  · simp only [MQt.at, List.getElem?_map] at ho
    cases hq : e.news[j]? with
    | none => rw [hq] at ho; cases ho
    | some o0 =>
      rw [hq] at ho; cases ho
      obtain ⟨x, m1, m2⟩ := hnew j o0 hq
      exact ⟨x, m1, by rw [m2, bkO_inO _ _ _ (by rw [List.all_eq_true] at hcn; exact hcn o0 (List.mem_of_getElem? hq))]⟩
theorem mq_ok {P : Program} {C : Told} (hm : P.follows .mixedOrders = true) (hC : ToldS P C) {g : FuncId} {e : MQt} {li lf : List Nat} (h : ∀ θ, mqB P C g e θ = some (e.out θ, idE θ li lf)) : MqOk P g e := by
  obtain ⟨_, hco, hcn⟩ := mq_one hm hC (h ⟨fun _ => 0, fun _ => 0⟩)
  exact ⟨hco, hcn, fun θ _ => (mq_one hm hC (h θ)).1⟩

/-! ### numbers of a table in some holes -/
def fB : Nat := 1000000
def getI (l : List (Nat × Int)) (j : Nat) (d : Int) : Int := match l with
  | [] => d
  | p :: l => cond (Nat.beq p.1 j && !(Nat.ble fB p.1)) p.2 (getI l j d)
def getF (l : List (Nat × Int)) (j : Nat) (d : Nat) : Nat := match l with
  | [] => d
  | p :: l => cond (Nat.beq p.1 (fB + j)) p.2.toNat (getF l j d)
/-- with these numbers in these holes (floats: from fB on) -/
def Th.lay (θ : Th) (l : List (Nat × Int)) : Th := ⟨fun j => getI l j (θ.i j), fun j => getF l j (θ.f j)⟩
def eqN : Int → Int → Bool
  | .ofNat a, .ofNat b => Nat.beq a b
  | .negSucc a, .negSucc b => Nat.beq a b
  | _, _ => false
theorem eqN_eq {a b : Int} (h : eqN a b = true) : a = b := by
  cases a <;> cases b <;> simp only [eqN] at h
  · rw [Nat.eq_of_beq_eq_true h]
  · cases h
  · cases h
  · rw [Nat.eq_of_beq_eq_true h]
def fitsL (θ : Th) : List (Nat × Int) → Bool
  | [] => true
  | p :: l => cond (cond (Nat.ble fB p.1) (Nat.beq (θ.f (p.1 - fB)) p.2.toNat) (eqN (θ.i p.1) p.2)) (fitsL θ l) false
def anyL (θ : Th) : List (List (Nat × Int)) → Bool
  | [] => false
  | p :: l => cond (fitsL θ p) true (anyL θ l)
theorem fits_cons {θ : Th} {p : Nat × Int} {l : List (Nat × Int)} (h : fitsL θ (p :: l) = true) : (cond (Nat.ble fB p.1) (Nat.beq (θ.f (p.1 - fB)) p.2.toNat) (eqN (θ.i p.1) p.2)) = true ∧ fitsL θ l = true := by
  simp only [fitsL] at h
  cases hp : (cond (Nat.ble fB p.1) (Nat.beq (θ.f (p.1 - fB)) p.2.toNat) (eqN (θ.i p.1) p.2)) with
  | false => rw [hp] at h; cases h
  | true => rw [hp] at h; exact ⟨rfl, h⟩
theorem getI_fits {θ : Th} {j : Nat} : ∀ {l : List (Nat × Int)}, fitsL θ l = true → getI l j (θ.i j) = θ.i j := by
  intro l
  induction l with
  | nil => intro _; rfl
  | cons p l ih =>
    intro h
    obtain ⟨hp, h⟩ := fits_cons h
    simp only [getI]
    cases hf : Nat.ble fB p.1 with
    | true => simp only [Bool.not_true, Bool.and_false, cond_false]; exact ih h
    | false =>
      rw [hf] at hp
      simp only [cond_false] at hp
      simp only [Bool.not_false, Bool.and_true]
      cases hb : Nat.beq p.1 j with
      | true => have := Nat.eq_of_beq_eq_true hb; subst this; exact (eqN_eq hp).symm
      | false => exact ih h
theorem getF_fits {θ : Th} {j : Nat} : ∀ {l : List (Nat × Int)}, fitsL θ l = true → getF l j (θ.f j) = θ.f j := by
  intro l
  induction l with
  | nil => intro _; rfl
  | cons p l ih =>
    intro h
    obtain ⟨hp, h⟩ := fits_cons h
    simp only [getF]
    cases hb : Nat.beq p.1 (fB + j) with
    | false => exact ih h
    | true =>
      have e := Nat.eq_of_beq_eq_true hb
      rw [show Nat.ble fB p.1 = true by rw [e]; simp] at hp
      simp only [cond_true] at hp
      rw [e, Nat.add_sub_cancel_left] at hp
      exact (Nat.eq_of_beq_eq_true hp).symm
theorem with_fits {θ : Th} {l : List (Nat × Int)} (h : fitsL θ l = true) : θ.lay l = θ := by
  show Th.mk _ _ = _
  rw [show (fun j => getI l j (θ.i j)) = θ.i from funext fun j => getI_fits h, show (fun j => getF l j (θ.f j)) = θ.f from funext fun j => getF_fits h]
theorem anyL_mem {θ : Th} : ∀ {t : List (List (Nat × Int))}, anyL θ t = true → ∃ l ∈ t, fitsL θ l = true := by
  intro t
  induction t with
  | nil => intro h; cases h
  | cons p t ih =>
    intro h
    simp only [anyL] at h
    cases hp : fitsL θ p with
    | true => exact ⟨p, List.mem_cons_self .., hp⟩
    | false =>
      rw [hp] at h
      obtain ⟨l, h1, h2⟩ := ih h
      exact ⟨l, List.mem_cons_of_mem _ h1, h2⟩
/-- at some rows of a table -/
def PtsOk (P : Program) (C : Told) (g : FuncId) (e : MQt) (li lf : List Nat) (t : List (List (Nat × Int))) : Prop := ∀ θ : Th, t.map (fun l => mqB P C g e (θ.lay l)) = t.map fun l => some (e.out (θ.lay l), idE (θ.lay l) li lf)
theorem mq_pts {P : Program} {C : Told} (hm : P.follows .mixedOrders = true) (hC : ToldS P C) {g : FuncId} {e : MQt} {li lf : List Nat} {ts : List (List (List (Nat × Int)))} (hok : e.ok = fun θ => anyL θ ts.flatten) (hcl : (e.objs.all isCells && e.news.all isCells) = true) (h : ∀ t ∈ ts, PtsOk P C g e li lf t) : MqOk P g e := by
  simp only [Bool.and_eq_true] at hcl
  refine ⟨hcl.1, hcl.2, fun θ hθ => ?_⟩
  rw [hok] at hθ
  obtain ⟨l, h1, h2⟩ := anyL_mem hθ
  obtain ⟨t, h3, h4⟩ := List.mem_flatten.1 h1
  have h5 := List.map_inj_left.1 (h t h3 θ) l h4
  rw [with_fits h2] at h5
  exact (mq_one hm hC h5).1
noncomputable def Told.mq (C : Told) (g : FuncId) (tabs : List (List MQt)) (key : List Value → Tr AObj → Nat) : Told := fun f => cond (Nat.beq f g) (some (mqC tabs key)) (C f)
theorem Told.mq_ok {P : Program} {C : Told} (hC : ToldS P C) {g : FuncId} {tabs : List (List MQt)} (key : List Value → Tr AObj → Nat) (h : ∀ l ∈ tabs, ∀ e ∈ l, MqOk P g e) : ToldS P (C.mq g tabs key) := by
  intro f c hc
  unfold Told.mq at hc
  cases hb : Nat.beq f g with
  | true =>
    rw [hb] at hc
    have := Nat.eq_of_beq_eq_true hb
    subst this
    cases hc
    exact mq_told h
  | false => rw [hb] at hc; exact hC f c hc
/-- places, and where there is none, the function's own code -/
noncomputable def mqD (P : Program) (C : Told) (g : FuncId) (tabs : List (List MQt)) (key : List Value → Tr AObj → Nat) : TCon where
  run args st := match mqTry (mpKeep args st) args st.h (selQ tabs (key args st.h)) with
    | some _ => (mqC tabs key).run args st
    | none => funF P C 100000 90 g args st
  sym args st K := match mqTry (mpKeep args st) args st.h (selQ tabs (key args st.h)) with
    | some _ => (mqC tabs key).sym args st K
    | none => funK P C 100000 90 g args st K
  ok args st K h := by
    split at h
    · exact (mqC tabs key).ok args st K h
    · obtain ⟨r, st', h1, h2⟩ := funK_ok P C 100000 90 g args st K h
      exact ⟨r, st', by rw [funF_eq]; exact h1, h2⟩
noncomputable def Told.mqd (C : Told) (P : Program) (g : FuncId) (tabs : List (List MQt)) (key : List Value → Tr AObj → Nat) : Told := fun f => cond (Nat.beq f g) (some (mqD P C g tabs key)) (C f)
theorem Told.mqd_ok {P : Program} {C : Told} (hm : P.follows .mixedOrders = true) (hC : ToldS P C) {g : FuncId} {tabs : List (List MQt)} (key : List Value → Tr AObj → Nat) (h : ∀ l ∈ tabs, ∀ e ∈ l, MqOk P g e) : ToldS P (C.mqd P g tabs key) := by
  intro f c hc
  unfold Told.mqd at hc
  cases hb : Nat.beq f g with
  | true =>
    rw [hb] at hc
    have := Nat.eq_of_beq_eq_true hb
    subst this
    cases hc
    intro args st r st' hwf hr
    simp only [mqD] at hr
    split at hr
    · exact mq_told h args st r st' hwf hr
    · rw [funF_eq] at hr
      exact evFunC_sound hm hC 100000 90 f args st r st' hwf hr
  | false => rw [hb] at hc; exact hC f c hc
theorem mq_cons {P : Program} {C : Told} (hm : P.follows .mixedOrders = true) (hC : ToldS P C) {g : FuncId} {e : MQt} {l : List MQt} {li lf : List Nat} (h : ∀ θ, mqB P C g e θ = some (e.out θ, idE θ li lf)) (hl : ∀ e ∈ l, MqOk P g e) : ∀ x ∈ e :: l, MqOk P g x := by
  intro x hx
  rcases List.mem_cons.1 hx with rfl | hx
  · exact mq_ok hm hC h
  · exact hl x hx
theorem mq_consP {P : Program} {g : FuncId} {e : MQt} {l : List MQt} (h : MqOk P g e) (hl : ∀ e ∈ l, MqOk P g e) : ∀ x ∈ e :: l, MqOk P g x := by
  intro x hx
  rcases List.mem_cons.1 hx with rfl | hx
  · exact h
  · exact hl x hx
theorem mq_tabs {P : Program} {g : FuncId} {l : List MQt} {t : List (List MQt)} (h : ∀ e ∈ l, MqOk P g e) (ht : ∀ l ∈ t, ∀ e ∈ l, MqOk P g e) : ∀ x ∈ l :: t, ∀ e ∈ x, MqOk P g e := by
  intro x hx
  rcases List.mem_cons.1 hx with rfl | hx
  · exact h
  · exact ht x hx
end Go.Proofs.YtpogcoolgnjejaaGreatDoor.Ev
/-
  Short names for what places are told by.
-/
set_option linter.unusedVariables false
namespace Go.Proofs.YtpogcoolgnjejaaGreatDoor.Ev
open Go
def qi (n : Nat) : Value := .int .i64 (.ofNat n)
def q0 : Value := .slice none 0 0
def qs (a n c : Nat) : Value := .slice (some ⟨a, 0, none⟩) n c
def qt (a o n c : Nat) : Value := .slice (some ⟨a, o, none⟩) n c
def qf : Value := .float .f64 0
def qe : Value := .string ⟨#[]⟩
def qb : List Nat → List Value
  | [] => []
  | n :: l => .int .u8 (.ofNat n) :: qb l
/-- holes -/
def qh (j : Nat) : Value := .int .i64 (.negSucc (hBase + j))
def qk (j : Nat) : Value := .int .u8 (.negSucc (hBase + j))
def qr (j : Nat) : Value := .float .f64 (hBase + j)
def eqL : List Int → List Int → Bool
  | [], [] => true
  | a :: l, b :: m => cond (eqN a b) (eqL l m) false
  | _, _ => false
def nthI : List Int → Nat → Int
  | [], _ => 0
  | a :: _, 0 => a
  | _ :: l, n + 1 => nthI l n
def lookT : List (List Int × List Int) → List Int → Nat → Int
  | [], _, _ => 0
  | p :: t, k, n => cond (eqL p.1 k) (nthI p.2 n) (lookT t k n)
noncomputable def incI (x : Int) : Int := wrapF .i64 (addI x 1)
noncomputable def incN (x : Int) : Int := IntKind.wrap .i64 (IntKind.wrap .i16 (wrapF .i64 (addI (IntKind.wrap .i64 (IntKind.wrap .i16 x)) (IntKind.wrap .i64 (IntKind.wrap .i16 1)))))
def halfF (x : Nat) : Nat := ariG .f64 .add x 4602678819172646912
/-! ### which shape a controller has -/
def lenS : Value → Nat
  | .slice _ n _ => n
  | _ => 0
def nthV : List Value → Nat → Value
  | [], _ => bad
  | v :: _, 0 => v
  | _ :: l, n + 1 => nthV l n
def fldsV : Value → List Value
  | .agg a => a.toList
  | _ => []
noncomputable def cellsV (h : Tr AObj) : Value → List Value
  | .slice (some a) _ _ => match hGet h a.block with
    | some (.cells cs _ _) => cs
    | _ => []
  | _ => []
def numB : Value → Nat
  | .bool true => 1
  | .int _ (.ofNat n) => n
  | _ => 0
def mixN : List Nat → Nat → Nat
  | [], a => a
  | n :: l, a => mixN l (a * 16 + n)
/-- lengths: the stack, is it over, the machine's cells, mail, what came in and goes out of the first two sessions -/
noncomputable def keyC (h : Tr AObj) (c : List Value) : Nat :=
  (fun s => mixN [lenS (nthV c 7), numB (nthV c 11), lenS (nthV c 8), lenS (nthV c 17), lenS (nthV s 4), lenS (nthV s 5), lenS (nthV s 12), lenS (nthV s 13)] 0) (cellsV h (nthV c 16))
def posN : List Nat → Nat → Nat → Nat
  | [], _, i => i
  | x :: l, k, i => cond (Nat.beq x k) i (posN l k (i + 1))
noncomputable def keyOf1 (ks : List Nat) (args : List Value) (h : Tr AObj) : Nat := match args with
  | c :: _ => posN ks (keyC h (fldsV c)) 0
  | _ => 1000000
noncomputable def keyOf2 (ks : List Nat) (args : List Value) (h : Tr AObj) : Nat := match args with
  | c :: s :: _ => posN ks (mixN [numB (nthV (fldsV s) 0), numB (nthV (fldsV s) 1)] (keyC h (fldsV c))) 0
  | _ => 1000000
def keyPC (ks : List Nat) (args : List Value) (_ : Tr AObj) : Nat := match args with
  | s :: _ => posN ks (mixN [numB (nthV (fldsV s) 4), numB (nthV (fldsV s) 7)] 0) 0
  | _ => 1000000
end Go.Proofs.YtpogcoolgnjejaaGreatDoor.Ev
