/-
  A function told at one place: what it answers there was looked up once, and is laid with new numbers wherever it is called.
-/
import Derived.Test.YtpbnlbbieaokoaaGreatDoorEvX
import Derived.Test.YtpbnlbbieaokoaaGreatDoorStC
set_option linter.unusedVariables false
set_option linter.unusedSimpArgs false
namespace Go.Proofs.YtpbnlbbieaokoaaGreatDoor.Ev
open Go Go.RowKit

/-! ### names of one's own, and what they stand for -/
abbrev Lk := Nat → Option Nat
def bkA (μ : Lk) (a : Addr) (K : Addr → Value) : Value := match μ a.block with
  | some i => K ⟨i, a.off, a.spot⟩
  | none => bad
def bk (μ : Lk) : Value → Value
  | .bool b => .bool b
  | .int k n => .int k n
  | .float k b => .float k b
  | .string s => .string s
  | .pointer none => .pointer none
  | .pointer (some a) => bkA μ a fun a => .pointer (some a)
  | .slice none 0 0 => .slice none 0 0
  | .slice (some a) n c => bkA μ a fun a => .slice (some a) n c
  | .map none => .map none
  | .map (some r) => match μ r with
    | some i => .map (some i)
    | none => bad
  | .nilFunc => .nilFunc
  | .nilIface => .nilIface
  | _ => bad
def bkV (μ : Lk) : Value → Value
  | .agg vs => .agg ⟨vs.toList.map (bk μ)⟩
  | .tuple vs => .tuple ⟨vs.toList.map (bk μ)⟩
  | v => bk μ v
def bkE (μ : Lk) : AE → AE
  | .returned v => .returned (bkV μ v)
  | .panicked v => .panicked v
structure Like (s t : Spot) : Prop where
  blk : t.blk = s.blk
  base : t.base = s.base
  ex : t.ex = s.ex
  es : t.es = s.es
  room : t.room = s.room
  void : t.void = s.void
/-- names of one memory, of another one, for the same places -/
structure LkR (μ ν : Lk) (ρ ρ' : Rho) : Prop where
  dom : ∀ i a, ν i = some a → ∃ x, μ i = some x
  at_ : ∀ (i x a : Nat) (s : Spot), μ i = some x → ν i = some a → ρ x = some s → ∃ t, ρ' a = some t ∧ Like s t
theorem bk_VR {μ ν : Lk} {ρ ρ' : Rho} (H : LkR μ ν ρ ρ') {v y : Value} (h : VR ρ (bk μ v) y) : VR ρ' (bk ν v) y := by
  cases v with
  | bool b => simp only [bk] at h ⊢; cases h; exact .bool b
  | int k n => simp only [bk] at h ⊢; cases h; exact .int k n
  | float k b => simp only [bk] at h ⊢; cases h with
    | float => exact .float k b
    | nan _ _ b' h1 h2 => exact .nan k b b' h1 h2
  | string s => simp only [bk] at h ⊢; cases h; exact .string s
  | nilFunc => simp only [bk] at h ⊢; cases h; exact .nilFunc
  | nilIface => simp only [bk] at h ⊢; cases h; exact .nilIface
  | pointer p =>
    cases p with
    | none => simp only [bk] at h ⊢; cases h; exact .ptrNil
    | some a =>
      simp only [bk, bkA] at h ⊢
      cases hn : ν a.block with
      | none => exact .any _
      | some a' =>
        obtain ⟨x, hx⟩ := H.dom _ _ hn
        rw [hx] at h
        simp only at h ⊢
        obtain ⟨ab, ao, asp⟩ := a
        simp only at h hx hn ⊢
        cases h with
        | ptr _ o s hs =>
          obtain ⟨t, h1, h2⟩ := H.at_ _ _ _ _ hx hn hs
          have := VR.ptr (ρ := ρ') a' ao t h1
          rw [h2.blk, h2.base] at this; exact this
        | ptrI _ j i s hs =>
          obtain ⟨t, h1, h2⟩ := H.at_ _ _ _ _ hx hn hs
          have := VR.ptrI (ρ := ρ') a' ao i t h1
          rw [h2.blk, h2.base, h2.es] at this; exact this
  | slice p n c =>
    cases p with
    | none =>
      cases n with
      | zero => cases c with
        | zero => simp only [bk] at h ⊢; cases h; exact .sliceNil
        | succ c => exact .any _
      | succ n => exact .any _
    | some a =>
      simp only [bk, bkA] at h ⊢
      cases hn : ν a.block with
      | none => exact .any _
      | some a' =>
        obtain ⟨x, hx⟩ := H.dom _ _ hn
        rw [hx] at h
        simp only at h ⊢
        obtain ⟨ab, ao, asp⟩ := a
        simp only at h hx hn ⊢
        cases h with
        | slice _ o s _ _ c' o' hs hnc hc hxx hr ho =>
          obtain ⟨t, h1, h2⟩ := H.at_ _ _ _ _ hx hn hs
          have := VR.slice (ρ := ρ') a' ao t n c c' o' h1 hnc hc (by rw [h2.ex]; exact hxx) (by rw [h2.ex, h2.es, h2.room]; exact hr) (by rw [h2.base]; exact ho)
          rw [h2.blk] at this; exact this
        | sliceI _ i s _ _ c' o' hs hnc hc hr hv ho =>
          obtain ⟨t, h1, h2⟩ := H.at_ _ _ _ _ hx hn hs
          have := VR.sliceI (ρ := ρ') a' i t n c c' o' h1 hnc hc (by rw [h2.ex, h2.es, h2.room]; exact hr) (by rw [h2.void]; exact hv) (by rw [h2.base, h2.es]; exact ho)
          rw [h2.blk] at this; exact this
        | sliceE _ i c' x' s hs hxx =>
          obtain ⟨t, h1, h2⟩ := H.at_ _ _ _ _ hx hn hs
          exact .sliceE a' i c' x' t h1 (by rw [h2.ex]; exact hxx)
        | sliceN => exact .sliceN _ _
        | sliceZ => exact .sliceZ _ _ _
        | sliceX => exact .sliceX _ _ _
  | map p =>
    cases p with
    | none => simp only [bk] at h ⊢; cases h; exact .mapNil
    | some r =>
      simp only [bk] at h ⊢
      cases hn : ν r with
      | none => exact .any _
      | some a' =>
        obtain ⟨x, hx⟩ := H.dom _ _ hn
        rw [hx] at h
        simp only at h ⊢
        cases h with
        | map _ s hs =>
          obtain ⟨t, h1, h2⟩ := H.at_ _ _ _ _ hx hn hs
          have := VR.map (ρ := ρ') a' t h1
          rw [h2.blk] at this; exact this
  | _ => exact .any _
theorem bkV_VR {μ ν : Lk} {ρ ρ' : Rho} (H : LkR μ ν ρ ρ') {v y : Value} (h : VR ρ (bkV μ v) y) : VR ρ' (bkV ν v) y := by
  have arr : ∀ (l : List Value) (a' : Array Value), (l.map (bk μ)).length = a'.size → (∀ (i : Nat) (x y : Value), (l.map (bk μ))[i]? = some x → a'[i]? = some y → VR ρ x y) → ∀ (i : Nat) (x y : Value), (l.map (bk ν))[i]? = some x → a'[i]? = some y → VR ρ' x y := by
    intro l a' hs h i x y hx hy
    rw [List.getElem?_map] at hx
    cases hq : l[i]? with
    | none => rw [hq] at hx; cases hx
    | some u => rw [hq] at hx; cases hx; exact bk_VR H (h i _ y (by rw [List.getElem?_map, hq]; rfl) hy)
  cases v with
  | agg vs =>
    simp only [bkV] at h ⊢
    cases h with
    | agg _ a' ha hh => exact .agg _ _ (by simpa using ha) fun i x y hx hy => arr vs.toList a' (by simpa using ha) (fun i x y hx hy => hh i x y (by simpa using hx) hy) i x y (by simpa using hx) hy
  | tuple vs =>
    simp only [bkV] at h ⊢
    cases h with
    | tuple _ a' ha hh => exact .tuple _ _ (by simpa using ha) fun i x y hx hy => arr vs.toList a' (by simpa using ha) (fun i x y hx hy => hh i x y (by simpa using hx) hy) i x y (by simpa using hx) hy
  | bool b => exact bk_VR (v := .bool b) H h
  | int k n => exact bk_VR (v := .int k n) H h
  | float k b => exact bk_VR (v := .float k b) H h
  | string q => exact bk_VR (v := .string q) H h
  | pointer q => exact bk_VR (v := .pointer q) H h
  | slice q n c => exact bk_VR (v := .slice q n c) H h
  | map q => exact bk_VR (v := .map q) H h
  | nilFunc => exact bk_VR (v := .nilFunc) H h
  | nilIface => exact bk_VR (v := .nilIface) H h
  | _ => exact .any _
def bkO (μ : Lk) : AObj → AObj
  | .cells cs ex es => .cells (cs.map (bk μ)) ex es
  | .old cs ex es => .old (cs.map (bk μ)) ex es
  | .row k es lo n elem => .row k es lo n elem
  | .map es clock => .map (es.map fun e => { e with val := bk μ e.val }) clock
  | .omap kk vk es => .omap kk vk es
  | .iter s p => .iter s p
/-- names where it was shown -/
def lkAt (n : Nat) (nm : List Nat) : Lk := fun i => cond (Nat.blt i n) (some i) nm[i - n]?
def newUps (μ : Lk) : List AObj → ASt → ASt
  | [], st => st
  | o :: l, st => newUps μ l (st.new (bkO μ o))
theorem newUps_get {μ : Lk} : ∀ {l : List AObj} {st : ASt} {x : Nat}, (newUps μ l st).h.get x = (if st.next ≤ x ∧ x < st.next + l.length then (l[x - st.next]?).map (bkO μ) else st.h.get x) ∧ (newUps μ l st).next = st.next + l.length := by
  intro l
  induction l with
  | nil => intro st x; rw [if_neg (by simp)]; exact ⟨rfl, rfl⟩
  | cons o l ih =>
    intro st x
    obtain ⟨h1, h2⟩ := ih (st := st.new (bkO μ o)) (x := x)
    have hn : (st.new (bkO μ o)).next = st.next + 1 := rfl
    refine ⟨?_, by simp only [newUps, h2, hn, List.length_cons]; omega⟩
    simp only [newUps, h1, hn]
    by_cases hx : x = st.next
    · subst hx
      rw [if_neg (by omega), if_pos (by simp)]
      simp only [ASt.new, set_get, upd_same, Nat.sub_self, List.getElem?_cons_zero, Option.map_some]
    · by_cases h3 : st.next + 1 ≤ x ∧ x < st.next + 1 + l.length
      · rw [if_pos h3, if_pos (by simp; omega), show x - st.next = (x - (st.next + 1)) + 1 by omega, List.getElem?_cons_succ]
      · rw [if_neg h3, if_neg (by simp; omega)]
        simp only [ASt.new, set_get]; exact upd_ne _ _ hx
theorem newUps_lo {μ : Lk} : ∀ {l : List AObj} {st : ASt}, LoS st (newUps μ l st) := by
  intro l
  induction l with
  | nil => intro st; exact LoS.refl _
  | cons o l ih => intro st; exact (LoS.new st _).trans ih

/-- an answer of more than one value -/
def bkX (μ : Lk) : Value → Value
  | .tuple vs => .tuple ⟨vs.toList.map (bkV μ)⟩
  | v => bkV μ v
theorem bkX_VR {μ ν : Lk} {ρ ρ' : Rho} (H : LkR μ ν ρ ρ') {v y : Value} (h : VR ρ (bkX μ v) y) : VR ρ' (bkX ν v) y := by
  cases v with
  | tuple vs =>
    simp only [bkX] at h ⊢
    cases h with
    | tuple _ a' ha hh =>
      refine .tuple _ _ (by simpa using ha) fun i x y hx hy => ?_
      simp only [List.getElem?_toArray, List.getElem?_map] at hx
      cases hq : vs.toList[i]? with
      | none => rw [hq] at hx; cases hx
      | some u => rw [hq] at hx; cases hx; exact bkV_VR H (hh i _ y (by simp only [List.getElem?_toArray, List.getElem?_map, hq]; rfl) hy)
  | bool b => exact bkV_VR (v := .bool b) H h
  | int k n => exact bkV_VR (v := .int k n) H h
  | float k b => exact bkV_VR (v := .float k b) H h
  | string q => exact bkV_VR (v := .string q) H h
  | pointer q => exact bkV_VR (v := .pointer q) H h
  | slice q n c => exact bkV_VR (v := .slice q n c) H h
  | map q => exact bkV_VR (v := .map q) H h
  | nilFunc => exact bkV_VR (v := .nilFunc) H h
  | nilIface => exact bkV_VR (v := .nilIface) H h
  | agg vs => exact bkV_VR (v := .agg vs) H h
  | complex k a b => exact .any _
  | chan r => exact .any _
  | func f a b => exact .any _
  | iface t v => exact .any _
def isCells : AObj → Bool
  | .cells .. => true
  | _ => false
theorem bkO_cells {μ ν : Lk} {ρ ρ' : Rho} (H : LkR μ ν ρ ρ') {o : AObj} (hc : isCells o = true) {s : Spot} {w : World} (h : ObjR ρ (bkO μ o) s w) : ObjR ρ' (bkO ν o) s w := by
  cases o with
  | cells cs ex es =>
    obtain ⟨h0, h1, h2, C, t, fr, h3, h4, h5, h6, h7⟩ := h
    refine ⟨h0, h1, h2, C, t, fr, h3, h4, h5, by simpa using h6, fun i x hx => ?_⟩
    rw [List.getElem?_map] at hx
    cases hq : cs[i]? with
    | none => rw [hq] at hx; cases hx
    | some u =>
      rw [hq] at hx; cases hx
      obtain ⟨y, hy, hv⟩ := h7 i _ (by rw [List.getElem?_map, hq]; rfl)
      exact ⟨y, hy, bk_VR H hv⟩
  | _ => cases hc
theorem bkO_isOwn {μ : Lk} {o : AObj} (hc : isCells o = true) : (bkO μ o).isOwn = true := by
  cases o with
  | cells => rfl
  | _ => cases hc
/-- numbers behind those that there are -/
def lkN (nx m : Nat) : Lk := fun i => cond (Nat.blt i m) (some (nx + i)) none
def sameY : Value → Value → Bool
  | .agg a, .agg b => sameWs a.toList b.toList
  | v, w => sameW v w
def sameYs : List Value → List Value → Bool
  | [], [] => true
  | v :: l, w :: m => sameY v w && sameYs l m
  | _, _ => false
def sameX : Value → Value → Bool
  | .tuple a, .tuple b => sameYs a.toList b.toList
  | v, w => sameY v w
theorem sameY_eq {v w : Value} (h : sameY v w = true) : v = w := by
  unfold sameY at h
  split at h
  · rename_i a b
    congr 1
    exact Array.toList_inj.1 (sameWs_eq h)
  · exact sameW_eq h
theorem sameYs_eq : ∀ {l m : List Value}, sameYs l m = true → l = m := by
  intro l
  induction l with
  | nil => intro m h; cases m with
    | nil => rfl
    | cons => cases h
  | cons v l ih => intro m h; cases m with
    | nil => cases h
    | cons w m =>
      simp only [sameYs, Bool.and_eq_true] at h
      rw [sameY_eq h.1, ih h.2]
theorem sameX_eq {v w : Value} (h : sameX v w = true) : v = w := by
  unfold sameX at h
  split at h
  · rename_i a b
    congr 1
    exact Array.toList_inj.1 (sameYs_eq h)
  · exact sameY_eq h
/-- what it comes to there -/
def PtOk (P : Program) (g : FuncId) (lit : List Value) (r : Value) (objs : List AObj) : Prop := ∀ w : World, GlA w → Calls P g lit.toArray w fun e w' => ∃ (ρ2 : Rho) (g2 : Mem) (n2 : Nat) (nm : List Nat), nm.length = objs.length ∧ nm.Nodup ∧
  (∃ v', e = .returned v' ∧ VR ρ2 (bkX (lkAt 0 nm) r) v') ∧ Mv (fun _ => none) ρ2 (fun _ => none) g2 0 n2 w w' ∧ ∀ (i : Nat) (o : AObj), objs[i]? = some o → ∃ x, nm[i]? = some x ∧ g2 x = some (bkO (lkAt 0 nm) o)
def ptC (lit : List Value) (r : Value) (objs : List AObj) : TCon where
  run args st := cond (sameYs args lit) (.ok (.returned (bkX (lkN st.next objs.length) r), newUps (lkN st.next objs.length) objs st)) (.er "told at another place")
  sym args st K := cond (sameYs args lit) (K (.returned (bkX (lkN st.next objs.length) r)) (newUps (lkN st.next objs.length) objs st)) False
  ok args st K h := by
    cases hs : sameYs args lit with
    | false => rw [hs] at h; exact h.elim
    | true => rw [hs] at h; exact ⟨_, _, rfl, h⟩
theorem pt_told {P : Program} {g : FuncId} {lit : List Value} {r : Value} {objs : List AObj} (hlit : lit.all (ground 1) = true) (hcl : objs.all isCells = true) (h : PtOk P g lit r objs) : ∀ args st q st', Wf st → (ptC lit r objs).run args st = .ok (q, st') → LoS st st' ∧ ∀ ρ w (args' : Array Value), VRL ρ args args'.toList → WR ρ st.h.get w → Fresh ρ st.next st'.next →
    Calls P g args' w fun e w' => ∃ ρ', EndR ρ' q e ∧ Mv ρ ρ' st.h.get st'.h.get st.next st'.next w w' := by
  intro args st q st' hwf hr
  simp only [ptC] at hr
  obtain ⟨hsame, hr1⟩ := cond_ok hr
  clear hr
  have hr := hr1
  clear hr1
  have := sameYs_eq hsame
  subst this
  have hr := Rs.ok.inj hr
  have hq : q = .returned (bkX (lkN st.next objs.length) r) := (congrArg Prod.fst hr).symm
  have hst : st' = newUps (lkN st.next objs.length) objs st := (congrArg Prod.snd hr).symm
  subst hq
  clear hr
  have hnx : st'.next = st.next + objs.length := by rw [hst]; exact (newUps_get (x := 0)).2
  have hsg : ∀ x, st'.h.get x = (if st.next ≤ x ∧ x < st.next + objs.length then (objs[x - st.next]?).map (bkO (lkN st.next objs.length)) else st.h.get x) := fun x => by rw [hst]; exact (newUps_get (x := x)).1
  generalize hν : lkN st.next objs.length = ν at hsg hst ⊢
  refine ⟨by rw [hst]; exact newUps_lo, fun ρ w args' hv hw hfr => ?_⟩
  rw [hnx] at hfr ⊢
  have hargs : args' = args.toArray := by
    apply Array.toList_inj.1
    rw [all_ground hv hlit]
  subst hargs
  refine (h w hw.glA).mono fun e w' he => ?_
  obtain ⟨ρ2, g2, n2, nm, nm1, nm2, ⟨v', rfl, hv'⟩, M, hobj⟩ := he
  generalize hμ : lkAt 0 nm = μ at hv' hobj
  have hcells : ∀ (i : Nat) (o : AObj), objs[i]? = some o → isCells o = true := fun i o ho => by
    rw [List.all_eq_true] at hcl
    exact hcl o (List.mem_of_getElem? ho)
  obtain ⟨ρ', hρ'⟩ : ∃ ρ' : Rho, ρ' = fun a => if st.next ≤ a ∧ a < st.next + objs.length then (nm[a - st.next]?).bind ρ2 else ρ a := ⟨_, rfl⟩
  have hρn : ∀ (j x : Nat), nm[j]? = some x → ρ' (st.next + j) = ρ2 x := fun j x hj => by
    have hjl := (List.getElem?_eq_some_iff.1 hj).1
    rw [hρ']; simp only
    rw [if_pos (by omega), show st.next + j - st.next = j by omega, hj]; rfl
  have hρo : ∀ a, ¬ (st.next ≤ a ∧ a < st.next + objs.length) → ρ' a = ρ a := fun a ha => by rw [hρ']; simp only; rw [if_neg ha]
  have hρs : ∀ a t, ρ a = some t → ¬ (st.next ≤ a ∧ a < st.next + objs.length) := fun a t ht hin => by
    rw [hfr a hin.1 hin.2] at ht; cases ht
  have hsub : Sub ρ ρ' := fun a t ht => by rw [hρo a (hρs a t ht)]; exact ht
  have hin : ∀ a, st.next ≤ a ∧ a < st.next + objs.length → ∃ j x, a = st.next + j ∧ nm[j]? = some x ∧ ρ' a = ρ2 x := fun a ha => by
    obtain ⟨j, rfl⟩ : ∃ j, a = st.next + j := ⟨a - st.next, by omega⟩
    have hjl : j < nm.length := by omega
    exact ⟨j, nm[j], rfl, List.getElem?_eq_getElem hjl, hρn _ _ (List.getElem?_eq_getElem hjl)⟩
  have H : LkR μ ν ρ2 ρ' := by
    refine ⟨fun i a hi => ?_, fun i x a s hx ha hs => ?_⟩
    · rw [← hν] at hi
      simp only [lkN] at hi
      cases hb : Nat.blt i objs.length with
      | false => rw [hb] at hi; cases hi
      | true =>
        have hlt : i < nm.length := by rw [nm1]; exact blt_lt hb
        refine ⟨nm[i], ?_⟩
        rw [← hμ]
        simp only [lkAt]
        show cond false _ _ = _
        simp [hlt]
    · rw [← hν] at ha
      simp only [lkN] at ha
      cases hb : Nat.blt i objs.length with
      | false => rw [hb] at ha; cases ha
      | true =>
        rw [hb] at ha
        simp only [cond_true, Option.some.injEq] at ha
        subst ha
        rw [← hμ] at hx
        simp only [lkAt] at hx
        have hx : nm[i]? = some x := by
          have : Nat.blt i 0 = false := rfl
          rw [this] at hx
          simpa using hx
        exact ⟨s, by rw [hρn i x hx]; exact hs, ⟨rfl, rfl, rfl, rfl, rfl, rfl⟩⟩
  -- what stands in memory
  have hold : ∀ a o, st'.h.get a = some o → (¬ (st.next ≤ a ∧ a < st.next + objs.length) ∧ st.h.get a = some o ∧ ρ' a = ρ a) ∨ ∃ j x o0, a = st.next + j ∧ nm[j]? = some x ∧ objs[j]? = some o0 ∧ o = bkO ν o0 ∧ ρ' a = ρ2 x ∧ g2 x = some (bkO μ o0) := fun a o ha => by
    rw [hsg a] at ha
    by_cases hr : st.next ≤ a ∧ a < st.next + objs.length
    · rw [if_pos hr] at ha
      obtain ⟨j, x, h1, h2, h3⟩ := hin a hr
      subst h1
      rw [show st.next + j - st.next = j by omega] at ha
      cases ho : objs[j]? with
      | none => rw [ho] at ha; cases ha
      | some o0 =>
        rw [ho] at ha
        simp only [Option.map_some, Option.some.injEq] at ha
        obtain ⟨x', q1, q2⟩ := hobj j o0 ho
        rw [h2] at q1; cases q1
        exact .inr ⟨j, x, o0, rfl, h2, ho, ha.symm, h3, q2⟩
    · rw [if_neg hr] at ha
      exact .inl ⟨hr, ha, hρo a hr⟩
  have hframe : ∀ b, b < w.heap.size → w'.heap[b]? = w.heap[b]? := fun b hb => M.frm b hb fun ⟨a, o, s, e, _⟩ => by cases e
  have hown2 : ∀ b, Own g2 ρ2 b → w.heap.size ≤ b := fun b hb => by
    rcases M.own b hb with h1 | ⟨a, o, s, e, _⟩
    · exact h1
    · cases e
  have hfz2 : ∀ b, Frz ρ2 b → w.heap.size ≤ b := fun b hb => by
    rcases M.fzn b hb with ⟨a, s, e, _⟩ | h1 | ⟨a, o, s, e, _⟩
    · cases e
    · exact h1
    · cases e
  have hown : ∀ b, Own st'.h.get ρ' b → Own g2 ρ2 b ∨ Own st.h.get ρ b := fun b ⟨a, o, s, e1, e0, e2, e3, e4⟩ => by
    rcases hold a o e1 with ⟨_, h2, h3⟩ | ⟨j, x, o0, _, h2, h3, rfl, h4, h5⟩
    · exact .inr ⟨a, o, s, h2, e0, by rw [← h3]; exact e2, e3, e4⟩
    · exact .inl ⟨x, _, s, h5, bkO_isOwn (hcells j o0 h3), by rw [← h4]; exact e2, e3, e4⟩
  have hfz : ∀ b, Frz ρ' b → Frz ρ b ∨ Frz ρ2 b := fun b ⟨a, t, h1, h2⟩ => by
    by_cases hr : st.next ≤ a ∧ a < st.next + objs.length
    · obtain ⟨j, x, _, _, h5⟩ := hin a hr
      rw [h5] at h1
      exact .inr ⟨x, t, h1, h2⟩
    · rw [hρo a hr] at h1
      exact .inl ⟨a, t, h1, h2⟩
  have hkeepF : ∀ b, Frz ρ b → w'.heap[b]? = w.heap[b]? := fun b hb => hframe b (hw.fz b hb).1
  refine ⟨ρ', ⟨v', rfl, bkX_VR H hv'⟩, ⟨by omega, hsub, fun a s ha => ?_, M.size, fun b hb _ => hframe b hb, fun b hb => ?_, M.os, M.tape, M.output, ⟨fun a s ha hs => ?_, fun a o ha => ?_, fun a b oa ob sa sb ea eb eo ra rb va vb heq => ?_, fun b hb => ?_, ?_⟩, fun a o ha => ?_, fun a o ha ho => ?_, fun b hb => ?_⟩⟩
  · by_cases hr : st.next ≤ a ∧ a < st.next + objs.length
    · exact .inr hr
    · rw [hρo a hr] at ha; exact .inl ha
  · rcases hown b hb with h1 | h1
    · exact .inl (hown2 b h1)
    · exact .inr h1
  · by_cases hr : st.next ≤ a ∧ a < st.next + objs.length
    · obtain ⟨j, x, _, _, h5⟩ := hin a hr
      rw [h5] at ha
      exact M.wr.blk x s ha hs
    · rw [hρo a hr] at ha
      exact Nat.lt_of_lt_of_le (hw.blk a s ha hs) M.size
  · rcases hold a o ha with ⟨hr, h2, h3⟩ | ⟨j, x, o0, _, h2, h3, rfl, h4, h5⟩
    · obtain ⟨s, k1, k2⟩ := hw.obj a o h2
      exact ⟨s, by rw [h3]; exact k1, k2.kept hsub (fun hv => hframe _ (hw.blk a s k1 hv)) hkeepF⟩
    · obtain ⟨s, k1, k2⟩ := M.wr.obj x _ h5
      exact ⟨s, by rw [h4]; exact k1, bkO_cells H (hcells j o0 h3) k2⟩
  · rcases hold a oa ea with ⟨ha1, ha2, ha3⟩ | ⟨j, x, o0, rfl, ha2, ha3, rfl, ha4, ha5⟩
    · rcases hold b ob eb with ⟨hb1, hb2, hb3⟩ | ⟨k, y, o1, rfl, hb2, hb3, rfl, hb4, hb5⟩
      · exact hw.inj a b oa ob sa sb ha2 hb2 eo (by rw [← ha3]; exact ra) (by rw [← hb3]; exact rb) va vb heq
      · exfalso
        have h1 := hown2 sb.blk ⟨y, _, sb, hb5, bkO_isOwn (hcells k o1 hb3), by rw [← hb4]; exact rb, vb, rfl⟩
        have h2 := hw.blk a sa (by rw [← ha3]; exact ra) va
        omega
    · rcases hold b ob eb with ⟨hb1, hb2, hb3⟩ | ⟨k, y, o1, rfl, hb2, hb3, rfl, hb4, hb5⟩
      · exfalso
        have h1 := hown2 sa.blk ⟨x, _, sa, ha5, bkO_isOwn (hcells j o0 ha3), by rw [← ha4]; exact ra, va, rfl⟩
        have h2 := hw.blk b sb (by rw [← hb3]; exact rb) vb
        omega
      · have hxy := M.wr.inj x y _ _ sa sb ha5 hb5 (.inl (bkO_isOwn (hcells j o0 ha3))) (by rw [← ha4]; exact ra) (by rw [← hb4]; exact rb) va vb heq
        subst hxy
        obtain ⟨hi1, hi2⟩ := List.getElem?_eq_some_iff.1 ha2
        obtain ⟨hj1, hj2⟩ := List.getElem?_eq_some_iff.1 hb2
        have hpw := List.pairwise_iff_getElem.1 nm2
        rcases Nat.lt_trichotomy j k with hlt | hlt | hlt
        · exact absurd (hi2.trans hj2.symm) (hpw j k hi1 hj1 hlt)
        · rw [hlt]
        · exact absurd (hj2.trans hi2.symm) (hpw k j hj1 hi1 hlt)
  · rcases hfz b hb with h1 | h1
    · have h2 := hw.fz b h1
      refine ⟨Nat.lt_of_lt_of_le h2.1 M.size, fun h3 => ?_⟩
      rcases hown b h3 with h4 | h4
      · have := hown2 b h4; omega
      · exact h2.2 h4
    · have h2 := M.wr.fz b h1
      refine ⟨h2.1, fun h3 => ?_⟩
      rcases hown b h3 with h4 | ⟨a, o, s, e1, e0, e2, e3, e4⟩
      · exact h2.2 h4
      · have h5 := hfz2 b h1
        have h6 := hw.blk a s e2 e3
        omega
  · refine gl_keep hw M.size (fun b hb _ => hframe b hb) fun b hb => ?_
    rcases hown b hb with h1 | h1
    · exact .inl (hown2 b h1)
    · exact .inr h1
  · rcases hold a o ha with ⟨_, h2, _⟩ | ⟨j, x, o0, rfl, h2, h3, _⟩
    · exact .inl ⟨o, h2⟩
    · have hjl := (List.getElem?_eq_some_iff.1 h3).1
      exact .inr ⟨by omega, by omega⟩
  · rcases hold a o ha with ⟨_, h2, _⟩ | ⟨j, x, o0, rfl, h2, h3, rfl, _⟩
    · exact .inl h2
    · rw [bkO_isOwn (hcells j o0 h3)] at ho; cases ho
  · rcases hfz b hb with h1 | h1
    · exact .inl h1
    · exact .inr (.inl (hfz2 b h1))

/-! ### the check -/
def nodupC : List Nat → Bool
  | [] => true
  | x :: l => !(l.any (Nat.beq x)) && nodupC l
theorem nodupC_spec {l : List Nat} (h : nodupC l = true) : l.Nodup := by
  induction l with
  | nil => exact List.nodup_nil
  | cons x l ih =>
    simp only [nodupC, Bool.and_eq_true, Bool.not_eq_true'] at h
    refine List.nodup_cons.2 ⟨fun hm => ?_, ih h.2⟩
    have : l.any (Nat.beq x) = true := List.any_eq_true.2 ⟨x, hm, Nat.beq_refl x⟩
    rw [h.1] at this; cases this
def sameOb (a : Option AObj) (b : AObj) : Bool := match a, b with
  | some (.cells cs ex es), .cells cs' ex' es' => sameWs cs cs' && (ex == ex') && Nat.beq es es'
  | _, _ => false
theorem sameOb_eq {a : Option AObj} {b : AObj} (h : sameOb a b = true) : a = some b := by
  unfold sameOb at h
  split at h
  · simp only [Bool.and_eq_true] at h
    rw [sameWs_eq h.1.1, eq_of_beq h.1.2, Nat.eq_of_beq_eq_true h.2]
  · cases h
def objsB (μ : Lk) (h : Tr AObj) : List Nat → List AObj → Bool
  | [], [] => true
  | x :: nm, o :: l => sameOb (h.get x) (bkO μ o) && objsB μ h nm l
  | _, _ => false
theorem objsB_spec {μ : Lk} {h : Tr AObj} : ∀ {nm : List Nat} {l : List AObj}, objsB μ h nm l = true → nm.length = l.length ∧ ∀ (i : Nat) (o : AObj), l[i]? = some o → ∃ x, nm[i]? = some x ∧ h.get x = some (bkO μ o) := by
  intro nm
  induction nm with
  | nil => intro l hh; cases l with
    | nil => exact ⟨rfl, fun i o ho => by simp at ho⟩
    | cons => cases hh
  | cons x nm ih => intro l hh; cases l with
    | nil => cases hh
    | cons o l =>
      simp only [objsB, Bool.and_eq_true] at hh
      obtain ⟨h1, h2⟩ := ih hh.2
      refine ⟨by simp [h1], fun i o' ho => ?_⟩
      cases i with
      | zero => cases ho; exact ⟨x, rfl, sameOb_eq hh.1⟩
      | succ i => exact h2 i o' ho
/-- the run of it, looked at once -/
noncomputable def ptB (P : Program) (C : Told) (g : FuncId) (lit : List Value) (nm : List Nat) (r : Value) (objs : List AObj) : Bool := match funF P C 100000 100 g lit st0 with
  | .ok (.returned v, st) => sameX v (bkX (lkAt 0 nm) r) && nodupC nm && objsB (lkAt 0 nm) st.h nm objs
  | _ => false
theorem pt_ok {P : Program} {C : Told} (hm : P.follows .mixedOrders = true) (hC : ToldS P C) {g : FuncId} {lit : List Value} {nm : List Nat} {r : Value} {objs : List AObj} (hlit : lit.all (ground 1) = true) (h : ptB P C g lit nm r objs = true) : PtOk P g lit r objs := by
  unfold ptB at h
  rw [funF_eq] at h
  split at h
  · rename_i v st he
    simp only [Bool.and_eq_true] at h
    obtain ⟨⟨h1, h2⟩, h3⟩ := h
    have hv := sameX_eq h1
    subst hv
    obtain ⟨k1, k2⟩ := objsB_spec h3
    intro w hgl
    have hwf : Wf st0 := fun x o e => by cases e
    obtain ⟨_, h4⟩ := evFunC_sound hm hC 100000 100 g lit st0 _ st hwf he
    have hw : WR (fun _ => none) st0.h.get w := by
      refine ⟨?_, ?_, ?_, ?_, fun b hb => ⟨(hgl b hb).1, (hgl b hb).2, fun ⟨a, o, s, e, _⟩ => by cases e⟩⟩
      · intro a s e; cases e
      · intro a o e; cases e
      · intro a b oa ob sa sb e; cases e
      · intro b hb; obtain ⟨a, s, e, _⟩ := hb; cases e
    have hlv : VRL (fun _ => none) lit lit.toArray.toList := ground_list (n := 1) hlit
    refine (h4 (fun _ => none) w lit.toArray hlv hw (fun _ _ _ => rfl)).mono fun e w' he => ?_
    obtain ⟨ρ', ⟨v', e1, hv'⟩, hmv⟩ := he
    exact ⟨ρ', st.h.get, st.next, nm, k1, nodupC_spec h2, ⟨v', e1, hv'⟩, hmv, k2⟩
  · cases h
/-! ### at some places, else by its code -/
def lookP : List (List Value × Value) → List Value → Option Value
  | [], _ => none
  | p :: l, args => cond (sameYs args p.1) (some p.2) (lookP l args)
theorem lookP_some {v : Value} {args : List Value} : ∀ {l : List (List Value × Value)}, lookP l args = some v → (args, v) ∈ l := by
  intro l
  induction l with
  | nil => intro h; cases h
  | cons p l ih =>
    intro h
    simp only [lookP] at h
    cases hs : sameYs args p.1 with
    | true =>
      rw [hs] at h
      cases h
      rw [sameYs_eq hs]
      exact List.mem_cons_self ..
    | false =>
      rw [hs] at h
      exact List.mem_cons_of_mem _ (ih h)
noncomputable def ptsC (P : Program) (C : Told) (g : FuncId) (tab : List (List Value × Value)) : TCon where
  run args st := match lookP tab args with
    | some v => .ok (.returned v, st)
    | none => funF P C 100000 90 g args st
  sym _ _ _ := False
  ok _ _ _ h := h.elim
noncomputable def Told.pts (C : Told) (P : Program) (g : FuncId) (tab : List (List Value × Value)) : Told := fun f => cond (Nat.beq f g) (some (ptsC P C g tab)) (C f)
theorem Told.pts_ok {P : Program} {C : Told} (hm : P.follows .mixedOrders = true) (hC : ToldS P C) {g : FuncId} {tab : List (List Value × Value)} (h : ∀ p ∈ tab, p.1.all (ground 1) = true ∧ (∀ n, bkX (lkN n 0) p.2 = p.2) ∧ PtOk P g p.1 p.2 []) : ToldS P (C.pts P g tab) := by
  intro f c hc
  unfold Told.pts at hc
  cases hb : Nat.beq f g with
  | true =>
    rw [hb] at hc
    have := Nat.eq_of_beq_eq_true hb
    subst this
    cases hc
    intro args st r st' hwf hr
    simp only [ptsC] at hr
    split at hr
    · rename_i v hv
      cases hr
      obtain ⟨h1, h2, h3⟩ := h _ (lookP_some hv)
      simp only at h1 h2 h3
      have hself : ∀ l : List Value, l.all (ground 1) = true → sameYs l l = true → (ptC l v []).run l st = .ok (.returned v, st) := by
        intro l _ hs
        simp only [ptC, hs, cond_true, List.length_nil, newUps, h2]
      have hs : sameYs args args = true := by
        have := lookP_some hv
        clear h1 h2 h3 hself
        revert hv
        generalize tab = l
        intro hv
        induction l with
        | nil => cases hv
        | cons p l ih =>
          simp only [lookP] at hv
          cases hs : sameYs args p.1 with
          | true => have := sameYs_eq hs; rw [← this] at hs; exact hs
          | false => rw [hs] at hv; exact ih hv
      exact pt_told (objs := []) h1 rfl h3 args st _ _ hwf (hself args h1 hs)
    · rw [funF_eq] at hr
      exact evFunC_sound hm hC 100000 90 f args st r st' hwf hr
  | false => rw [hb] at hc; exact hC f c hc
/-- the runs of it at all its places -/
noncomputable def ptsB (P : Program) (C : Told) (g : FuncId) : List (List Value × Value) → Bool
  | [] => true
  | p :: l => p.1.all (ground 1) && ptB P C g p.1 [] p.2 [] && ptsB P C g l
theorem ptsB_ok {P : Program} {C : Told} (hm : P.follows .mixedOrders = true) (hC : ToldS P C) {g : FuncId} : ∀ {l : List (List Value × Value)}, ptsB P C g l = true → ∀ p ∈ l, p.1.all (ground 1) = true ∧ PtOk P g p.1 p.2 [] := by
  intro l
  induction l with
  | nil => intro _ p hp; cases hp
  | cons q l ih =>
    intro h p hp
    simp only [ptsB, Bool.and_eq_true] at h
    rcases List.mem_cons.1 hp with rfl | hp
    · exact ⟨h.1.1, pt_ok hm hC h.1.1 h.1.2⟩
    · exact ih h.2 p hp
def Told.pt (C : Told) (g : FuncId) (lit : List Value) (r : Value) (objs : List AObj) : Told := fun f => cond (Nat.beq f g) (some (ptC lit r objs)) (C f)
theorem Told.pt_ok {P : Program} {C : Told} {g : FuncId} {lit : List Value} {r : Value} {objs : List AObj} (hC : ToldS P C) (hlit : lit.all (ground 1) = true) (hcl : objs.all isCells = true) (h : PtOk P g lit r objs) : ToldS P (C.pt g lit r objs) := by
  intro f c hc
  unfold Told.pt at hc
  cases hb : Nat.beq f g with
  | true =>
    rw [hb] at hc
    have := Nat.eq_of_beq_eq_true hb
    subst this
    cases hc
    exact pt_told hlit hcl h
  | false => rw [hb] at hc; exact hC f c hc
end Go.Proofs.YtpbnlbbieaokoaaGreatDoor.Ev
/-
  What annunciator/annunciatortop.started answers at one place. (Printed by tools/ptgen.py.)
-/
namespace Go.Proofs.YtpbnlbbieaokoaaGreatDoor.Ev
open Go
def staLArgs : List Value := [.int .i64 (.ofNat 100)]
def staLNm : List Nat := [16, 109, 145, 147, 149, 151, 153, 175, 15, 116, 125, 134, 143, 14, 132]
def staLR : Value := .tuple #[.pointer (some ⟨0, 0, none⟩), .bool true]
def staLObjs : List AObj := [.cells [.slice (some ⟨1, 0, none⟩) 7 7, .slice (some ⟨2, 0, none⟩) 4 4, .slice (some ⟨3, 0, none⟩) 7 7, .slice (some ⟨4, 0, none⟩) 18 18, .int .i64 (.ofNat 100), .slice (some ⟨5, 0, none⟩) 9 9, .int .i64 (.ofNat 0), .slice none 0 0, .slice none 0 0, .int .i64 (.ofNat 0), .int .i64 (.ofNat 0), .bool true, .int .i64 (.ofNat 0), .int .i64 (.ofNat 0), .int .i64 (.ofNat 0), .int .i64 (.ofNat 0), .slice (some ⟨6, 0, none⟩) 4 4, .slice none 0 0, .slice (some ⟨7, 0, none⟩) 9 9, .slice none 0 0, .slice none 0 0, .slice (some ⟨8, 0, none⟩) 1 1, .map none, .bool false] true 0,
  .cells [.string ⟨#[97]⟩, .int .i64 (.ofNat 1), .int .i64 (.ofNat 2), .int .i64 (.ofNat 0), .int .i64 (.ofNat 2), .int .i64 (.ofNat 0), .float .f64 0, .int .i64 (.ofNat 0), .int .i64 (.ofNat 0), .float .f64 0, .string ⟨#[98]⟩, .int .i64 (.ofNat 1), .int .i64 (.ofNat 1), .int .i64 (.ofNat 0), .int .i64 (.ofNat 1), .int .i64 (.ofNat 0), .float .f64 0, .int .i64 (.ofNat 0), .int .i64 (.ofNat 0), .float .f64 0, .string ⟨#[111]⟩, .int .i64 (.ofNat 2), .int .i64 (.ofNat 2), .int .i64 (.ofNat 0), .int .i64 (.ofNat 2), .int .i64 (.ofNat 1), .float .f64 0, .int .i64 (.ofNat 2), .int .i64 (.ofNat 9), .float .f64 0, .string ⟨#[110]⟩, .int .i64 (.ofNat 3), .int .i64 (.ofNat 2), .int .i64 (.ofNat 0), .int .i64 (.ofNat 2), .int .i64 (.ofNat 0), .float .f64 0, .int .i64 (.ofNat 0), .int .i64 (.ofNat 0), .float .f64 0, .string ⟨#[120]⟩, .int .i64 (.ofNat 3), .int .i64 (.ofNat 2), .int .i64 (.ofNat 0), .int .i64 (.ofNat 2), .int .i64 (.ofNat 0), .float .f64 0, .int .i64 (.ofNat 0), .int .i64 (.ofNat 0), .float .f64 0, .string ⟨#[114]⟩, .int .i64 (.ofNat 3), .int .i64 (.ofNat 5), .int .i64 (.ofNat 0), .int .i64 (.ofNat 5), .int .i64 (.ofNat 0), .float .f64 0, .int .i64 (.ofNat 0), .int .i64 (.ofNat 0), .float .f64 0, .string ⟨#[107]⟩, .int .i64 (.ofNat 3), .int .i64 (.ofNat 2), .int .i64 (.ofNat 3), .int .i64 (.ofNat 2), .int .i64 (.ofNat 0), .float .f64 0, .int .i64 (.ofNat 0), .int .i64 (.ofNat 0), .float .f64 0] false 10,
  .cells [.int .i64 (.ofNat 1), .int .i64 (.ofNat 2), .int .i64 (.ofNat 2), .string ⟨#[110]⟩, .string ⟨#[]⟩, .int .i64 (.ofNat 3), .int .i64 (.ofNat 0), .int .i64 (.ofNat 0), .int .i64 (.ofNat 0), .float .f64 0, .slice none 0 0, .int .i64 (.ofNat 4), .int .i64 (.ofNat 2), .string ⟨#[]⟩, .string ⟨#[]⟩, .int .i64 (.ofNat 0), .int .i64 (.ofNat 0), .int .i64 (.ofNat 0), .int .i64 (.ofNat 0), .float .f64 0, .slice (some ⟨9, 0, none⟩) 2 2, .slice none 0 0, .slice none 0 0, .string ⟨#[]⟩, .int .i64 (.ofNat 0), .int .i64 (.ofNat 0), .slice none 0 0, .int .i64 (.ofNat 1), .int .i64 (.ofNat 2), .int .i64 (.ofNat 2), .string ⟨#[111]⟩, .string ⟨#[]⟩, .int .i64 (.ofNat 2), .int .i64 (.ofNat 0), .int .i64 (.ofNat 0), .int .i64 (.ofNat 0), .float .f64 0, .slice none 0 0, .int .i64 (.ofNat 4), .int .i64 (.ofNat 2), .string ⟨#[]⟩, .string ⟨#[]⟩, .int .i64 (.ofNat 0), .int .i64 (.ofNat 0), .int .i64 (.ofNat 0), .int .i64 (.ofNat 0), .float .f64 0, .slice (some ⟨10, 0, none⟩) 2 2, .slice none 0 0, .slice none 0 0, .string ⟨#[]⟩, .int .i64 (.ofNat 0), .int .i64 (.ofNat 0), .slice none 0 0, .int .i64 (.ofNat 2), .int .i64 (.ofNat 0), .int .i64 (.ofNat 0), .string ⟨#[]⟩, .string ⟨#[]⟩, .int .i64 (.ofNat 0), .int .i64 (.ofNat 0), .int .i64 (.ofNat 0), .int .i64 (.ofNat 0), .float .f64 0, .slice none 0 0, .int .i64 (.ofNat 2), .int .i64 (.ofNat 1), .string ⟨#[98]⟩, .string ⟨#[]⟩, .int .i64 (.ofNat 1), .int .i64 (.ofNat 0), .int .i64 (.ofNat 0), .int .i64 (.ofNat 0), .float .f64 0, .slice none 0 0, .slice (some ⟨11, 0, none⟩) 1 1, .slice none 0 0, .string ⟨#[]⟩, .int .i64 (.ofNat 0), .int .i64 (.ofNat 0), .slice none 0 0, .int .i64 (.ofNat 1), .int .i64 (.ofNat 2), .int .i64 (.ofNat 5), .string ⟨#[114]⟩, .string ⟨#[]⟩, .int .i64 (.ofNat 5), .int .i64 (.ofNat 0), .int .i64 (.ofNat 0), .int .i64 (.ofNat 0), .float .f64 0, .slice none 0 0, .int .i64 (.ofNat 4), .int .i64 (.ofNat 5), .string ⟨#[]⟩, .string ⟨#[]⟩, .int .i64 (.ofNat 0), .int .i64 (.ofNat 0), .int .i64 (.ofNat 0), .int .i64 (.ofNat 0), .float .f64 0, .slice (some ⟨12, 0, none⟩) 2 2, .slice none 0 0, .slice none 0 0, .string ⟨#[]⟩, .int .i64 (.ofNat 0), .int .i64 (.ofNat 0), .slice none 0 0] false 27,
  .cells [.string ⟨#[97]⟩, .int .i64 (.ofNat 1), .int .i64 (.ofNat 2), .int .i64 (.ofNat 0), .int .i64 (.ofNat 2), .int .i64 (.ofNat 0), .float .f64 0, .int .i64 (.ofNat 0), .int .i64 (.ofNat 0), .float .f64 0, .string ⟨#[98]⟩, .int .i64 (.ofNat 1), .int .i64 (.ofNat 1), .int .i64 (.ofNat 0), .int .i64 (.ofNat 1), .int .i64 (.ofNat 0), .float .f64 0, .int .i64 (.ofNat 0), .int .i64 (.ofNat 0), .float .f64 0, .string ⟨#[111]⟩, .int .i64 (.ofNat 2), .int .i64 (.ofNat 2), .int .i64 (.ofNat 0), .int .i64 (.ofNat 2), .int .i64 (.ofNat 1), .float .f64 0, .int .i64 (.ofNat 2), .int .i64 (.ofNat 9), .float .f64 0, .string ⟨#[110]⟩, .int .i64 (.ofNat 3), .int .i64 (.ofNat 2), .int .i64 (.ofNat 0), .int .i64 (.ofNat 2), .int .i64 (.ofNat 0), .float .f64 0, .int .i64 (.ofNat 0), .int .i64 (.ofNat 0), .float .f64 0, .string ⟨#[120]⟩, .int .i64 (.ofNat 3), .int .i64 (.ofNat 2), .int .i64 (.ofNat 0), .int .i64 (.ofNat 2), .int .i64 (.ofNat 0), .float .f64 0, .int .i64 (.ofNat 0), .int .i64 (.ofNat 0), .float .f64 0, .string ⟨#[114]⟩, .int .i64 (.ofNat 3), .int .i64 (.ofNat 5), .int .i64 (.ofNat 0), .int .i64 (.ofNat 5), .int .i64 (.ofNat 0), .float .f64 0, .int .i64 (.ofNat 0), .int .i64 (.ofNat 0), .float .f64 0, .string ⟨#[107]⟩, .int .i64 (.ofNat 3), .int .i64 (.ofNat 2), .int .i64 (.ofNat 3), .int .i64 (.ofNat 2), .int .i64 (.ofNat 0), .float .f64 0, .int .i64 (.ofNat 0), .int .i64 (.ofNat 0), .float .f64 0] false 10,
  .cells [.int .i64 (.ofNat 2), .int .i64 (.ofNat 0), .int .i64 (.ofNat 3), .int .i64 (.ofNat 0), .int .i64 (.ofNat 0), .int .i64 (.ofNat 0), .float .f64 0, .int .i64 (.ofNat 1), .int .i64 (.ofNat 2), .int .i64 (.ofNat 0), .int .i64 (.ofNat 0), .int .i64 (.ofNat 2), .int .i64 (.ofNat 1), .float .f64 0, .int .i64 (.ofNat 4), .int .i64 (.ofNat 2), .int .i64 (.ofNat 0), .int .i64 (.ofNat 0), .int .i64 (.ofNat 0), .int .i64 (.ofNat 0), .float .f64 0, .int .i64 (.ofNat 18), .int .i64 (.ofNat 0), .int .i64 (.ofNat 3), .int .i64 (.ofNat 0), .int .i64 (.ofNat 0), .int .i64 (.ofNat 0), .float .f64 0, .int .i64 (.ofNat 2), .int .i64 (.ofNat 0), .int .i64 (.ofNat 4), .int .i64 (.ofNat 0), .int .i64 (.ofNat 0), .int .i64 (.ofNat 0), .float .f64 0, .int .i64 (.ofNat 2), .int .i64 (.ofNat 0), .int .i64 (.ofNat 0), .int .i64 (.ofNat 0), .int .i64 (.ofNat 0), .int .i64 (.ofNat 0), .float .f64 0, .int .i64 (.ofNat 4), .int .i64 (.ofNat 2), .int .i64 (.ofNat 0), .int .i64 (.ofNat 0), .int .i64 (.ofNat 0), .int .i64 (.ofNat 0), .float .f64 0, .int .i64 (.ofNat 18), .int .i64 (.ofNat 0), .int .i64 (.ofNat 2), .int .i64 (.ofNat 0), .int .i64 (.ofNat 0), .int .i64 (.ofNat 0), .float .f64 0, .int .i64 (.ofNat 2), .int .i64 (.ofNat 0), .int .i64 (.ofNat 1), .int .i64 (.ofNat 0), .int .i64 (.ofNat 0), .int .i64 (.ofNat 0), .float .f64 0, .int .i64 (.ofNat 21), .int .i64 (.ofNat 0), .int .i64 (.ofNat 13), .int .i64 (.ofNat 0), .int .i64 (.ofNat 0), .int .i64 (.ofNat 0), .float .f64 0, .int .i64 (.ofNat 2), .int .i64 (.ofNat 0), .int .i64 (.ofNat 0), .int .i64 (.ofNat 0), .int .i64 (.ofNat 0), .int .i64 (.ofNat 0), .float .f64 0, .int .i64 (.ofNat 2), .int .i64 (.ofNat 0), .int .i64 (.ofNat 4), .int .i64 (.ofNat 0), .int .i64 (.ofNat 0), .int .i64 (.ofNat 0), .float .f64 0, .int .i64 (.ofNat 19), .int .i64 (.ofNat 0), .int .i64 (.ofNat 6), .int .i64 (.ofNat 3), .int .i64 (.ofNat 0), .int .i64 (.ofNat 0), .float .f64 0, .int .i64 (.ofNat 2), .int .i64 (.ofNat 0), .int .i64 (.ofNat 5), .int .i64 (.ofNat 0), .int .i64 (.ofNat 0), .int .i64 (.ofNat 0), .float .f64 0, .int .i64 (.ofNat 1), .int .i64 (.ofNat 5), .int .i64 (.ofNat 0), .int .i64 (.ofNat 0), .int .i64 (.ofNat 5), .int .i64 (.ofNat 0), .float .f64 4602678819172646912, .int .i64 (.ofNat 4), .int .i64 (.ofNat 5), .int .i64 (.ofNat 0), .int .i64 (.ofNat 0), .int .i64 (.ofNat 0), .int .i64 (.ofNat 0), .float .f64 0, .int .i64 (.ofNat 18), .int .i64 (.ofNat 0), .int .i64 (.ofNat 5), .int .i64 (.ofNat 0), .int .i64 (.ofNat 0), .int .i64 (.ofNat 0), .float .f64 0, .int .i64 (.ofNat 23), .int .i64 (.ofNat 0), .int .i64 (.ofNat 0), .int .i64 (.ofNat 0), .int .i64 (.ofNat 0), .int .i64 (.ofNat 0), .float .f64 0] false 7,
  .cells [.int .i64 (.ofNat 2), .int .i64 (.ofNat 0), .float .f64 0, .int .i64 (.ofNat 1), .int .i64 (.ofNat 0), .float .f64 0, .int .i64 (.ofNat 2), .int .i64 (.ofNat 1), .float .f64 0, .int .i64 (.ofNat 2), .int .i64 (.ofNat 0), .float .f64 0, .int .i64 (.ofNat 2), .int .i64 (.ofNat 0), .float .f64 0, .int .i64 (.ofNat 5), .int .i64 (.ofNat 0), .float .f64 0, .int .i64 (.ofNat 2), .int .i64 (.ofNat 0), .float .f64 0, .int .i64 (.ofNat 2), .int .i64 (.ofNat 0), .float .f64 0, .int .i64 (.ofNat 2), .int .i64 (.ofNat 0), .float .f64 0] false 3,
  .cells [.bool true, .int .i64 (.ofNat 0), .slice none 0 0, .bool false, .slice none 0 0, .slice none 0 0, .slice none 0 0, .int .i64 (.ofNat 0), .bool true, .int .i64 (.ofNat 0), .slice none 0 0, .bool false, .slice none 0 0, .slice none 0 0, .slice none 0 0, .int .i64 (.ofNat 0), .bool false, .int .i64 (.ofNat 0), .slice none 0 0, .bool false, .slice none 0 0, .slice none 0 0, .slice none 0 0, .int .i64 (.ofNat 0), .bool false, .int .i64 (.ofNat 0), .slice none 0 0, .bool false, .slice none 0 0, .slice none 0 0, .slice none 0 0, .int .i64 (.ofNat 0)] false 8,
  .cells [.int .i64 (.ofNat 2), .int .i64 (.ofNat 0), .float .f64 0, .int .i64 (.ofNat 1), .int .i64 (.ofNat 0), .float .f64 0, .int .i64 (.ofNat 2), .int .i64 (.ofNat 1), .float .f64 0, .int .i64 (.ofNat 2), .int .i64 (.ofNat 0), .float .f64 0, .int .i64 (.ofNat 2), .int .i64 (.ofNat 0), .float .f64 0, .int .i64 (.ofNat 5), .int .i64 (.ofNat 0), .float .f64 0, .int .i64 (.ofNat 2), .int .i64 (.ofNat 0), .float .f64 0, .int .i64 (.ofNat 2), .int .i64 (.ofNat 0), .float .f64 0, .int .i64 (.ofNat 2), .int .i64 (.ofNat 0), .float .f64 0] false 3,
  .cells [.int .i64 (.ofNat 3), .int .i64 (.ofNat 0), .int .i64 (.ofNat 0), .bool false, .int .i64 (.ofNat 0), .slice none 0 0, .slice none 0 0, .slice (some ⟨13, 0, none⟩) 9 9] true 8,
  .cells [.int .i64 (.ofNat 2), .int .i64 (.ofNat 2), .string ⟨#[110]⟩, .string ⟨#[]⟩, .int .i64 (.ofNat 3), .int .i64 (.ofNat 0), .int .i64 (.ofNat 0), .int .i64 (.ofNat 0), .float .f64 0, .slice none 0 0, .int .i64 (.ofNat 1), .int .i64 (.ofNat 2), .string ⟨#[]⟩, .string ⟨#[]⟩, .int .i64 (.ofNat 0), .int .i64 (.ofNat 0), .int .i64 (.ofNat 2), .int .i64 (.ofNat 1), .float .f64 0, .slice none 0 0] false 10,
  .cells [.int .i64 (.ofNat 2), .int .i64 (.ofNat 2), .string ⟨#[120]⟩, .string ⟨#[]⟩, .int .i64 (.ofNat 4), .int .i64 (.ofNat 0), .int .i64 (.ofNat 0), .int .i64 (.ofNat 0), .float .f64 0, .slice none 0 0, .int .i64 (.ofNat 2), .int .i64 (.ofNat 2), .string ⟨#[97]⟩, .string ⟨#[]⟩, .int .i64 (.ofNat 0), .int .i64 (.ofNat 0), .int .i64 (.ofNat 0), .int .i64 (.ofNat 0), .float .f64 0, .slice none 0 0] false 10,
  .cells [.int .i64 (.ofNat 1), .int .i64 (.ofNat 3), .int .i64 (.ofNat 2), .string ⟨#[107]⟩, .string ⟨#[]⟩, .int .i64 (.ofNat 6), .int .i64 (.ofNat 3), .int .i64 (.ofNat 0), .int .i64 (.ofNat 0), .float .f64 0, .slice (some ⟨14, 0, none⟩) 1 1, .int .i64 (.ofNat 2), .int .i64 (.ofNat 2), .string ⟨#[97]⟩, .string ⟨#[]⟩, .int .i64 (.ofNat 0), .int .i64 (.ofNat 0), .int .i64 (.ofNat 0), .int .i64 (.ofNat 0), .float .f64 0, .slice none 0 0, .slice none 0 0, .slice none 0 0, .string ⟨#[]⟩, .int .i64 (.ofNat 0), .int .i64 (.ofNat 0), .slice none 0 0] false 27,
  .cells [.int .i64 (.ofNat 2), .int .i64 (.ofNat 5), .string ⟨#[114]⟩, .string ⟨#[]⟩, .int .i64 (.ofNat 5), .int .i64 (.ofNat 0), .int .i64 (.ofNat 0), .int .i64 (.ofNat 0), .float .f64 0, .slice none 0 0, .int .i64 (.ofNat 1), .int .i64 (.ofNat 5), .string ⟨#[]⟩, .string ⟨#[]⟩, .int .i64 (.ofNat 0), .int .i64 (.ofNat 0), .int .i64 (.ofNat 5), .int .i64 (.ofNat 0), .float .f64 4602678819172646912, .slice none 0 0] false 10,
  .cells [.int .i64 (.ofNat 2), .int .i64 (.ofNat 0), .float .f64 0, .int .i64 (.ofNat 1), .int .i64 (.ofNat 0), .float .f64 0, .int .i64 (.ofNat 2), .int .i64 (.ofNat 1), .float .f64 0, .int .i64 (.ofNat 2), .int .i64 (.ofNat 0), .float .f64 0, .int .i64 (.ofNat 2), .int .i64 (.ofNat 0), .float .f64 0, .int .i64 (.ofNat 5), .int .i64 (.ofNat 0), .float .f64 0, .int .i64 (.ofNat 2), .int .i64 (.ofNat 0), .float .f64 0, .int .i64 (.ofNat 2), .int .i64 (.ofNat 0), .float .f64 0, .int .i64 (.ofNat 2), .int .i64 (.ofNat 0), .float .f64 0] false 3,
  .cells [.int .i64 (.ofNat 2), .int .i64 (.ofNat 2), .string ⟨#[120]⟩, .string ⟨#[]⟩, .int .i64 (.ofNat 4), .int .i64 (.ofNat 0), .int .i64 (.ofNat 0), .int .i64 (.ofNat 0), .float .f64 0, .slice none 0 0] false 10]
end Go.Proofs.YtpbnlbbieaokoaaGreatDoor.Ev
/-
  What annunciator/ctrl.New answers at one place. (Printed by tools/ptgen.py.)
-/
namespace Go.Proofs.YtpbnlbbieaokoaaGreatDoor.Ev
open Go
def newLArgs : List Value := [.string ⟨#[105,110,32,97,32,58,32,105,110,116,59,32,105,110,32,98,32,58,32,98,111,111,108,59,32,111,117,116,32,111,32,58,32,105,110,116,32,58,61,32,49,44,32,57,59,32,118,97,114,32,110,32,58,32,105,110,116,59,32,118,97,114,32,120,32,58,32,105,110,116,59,32,118,97,114,32,114,32,58,32,114,101,97,108,59,32,118,97,114,32,107,32,58,32,105,110,116,91,51,93,59,32,110,32,58,61,32,110,32,43,32,49,59,32,111,32,58,61,32,120,32,43,32,97,59,32,105,102,32,98,32,116,104,101,110,32,107,91,120,93,32,58,61,32,97,59,32,101,110,100,32,114,32,58,61,32,114,32,43,32,48,46,53,59]⟩, .int .i64 (.ofNat 100)]
def newLNm : List Nat := [166, 408, 953, 955, 957, 960, 962, 199, 261, 345, 382, 341]
def newLR : Value := .tuple #[.agg #[.slice (some ⟨0, 0, none⟩) 7 7, .slice (some ⟨1, 0, none⟩) 4 4, .slice (some ⟨2, 0, none⟩) 7 7, .slice (some ⟨3, 0, none⟩) 18 18, .int .i64 (.ofNat 100), .slice (some ⟨4, 0, none⟩) 9 9, .int .i64 (.ofNat 0), .slice none 0 0, .slice none 0 0, .int .i64 (.ofNat 0), .int .i64 (.ofNat 0), .bool true, .int .i64 (.ofNat 0), .int .i64 (.ofNat 0), .int .i64 (.ofNat 0), .int .i64 (.ofNat 0), .slice (some ⟨5, 0, none⟩) 4 4, .slice none 0 0, .slice (some ⟨6, 0, none⟩) 9 9], .int .i64 (.ofNat 0), .int .i64 (.ofNat 0)]
def newLObjs : List AObj := [.cells [.string ⟨#[97]⟩, .int .i64 (.ofNat 1), .int .i64 (.ofNat 2), .int .i64 (.ofNat 0), .int .i64 (.ofNat 2), .int .i64 (.ofNat 0), .float .f64 0, .int .i64 (.ofNat 0), .int .i64 (.ofNat 0), .float .f64 0, .string ⟨#[98]⟩, .int .i64 (.ofNat 1), .int .i64 (.ofNat 1), .int .i64 (.ofNat 0), .int .i64 (.ofNat 1), .int .i64 (.ofNat 0), .float .f64 0, .int .i64 (.ofNat 0), .int .i64 (.ofNat 0), .float .f64 0, .string ⟨#[111]⟩, .int .i64 (.ofNat 2), .int .i64 (.ofNat 2), .int .i64 (.ofNat 0), .int .i64 (.ofNat 2), .int .i64 (.ofNat 1), .float .f64 0, .int .i64 (.ofNat 2), .int .i64 (.ofNat 9), .float .f64 0, .string ⟨#[110]⟩, .int .i64 (.ofNat 3), .int .i64 (.ofNat 2), .int .i64 (.ofNat 0), .int .i64 (.ofNat 2), .int .i64 (.ofNat 0), .float .f64 0, .int .i64 (.ofNat 0), .int .i64 (.ofNat 0), .float .f64 0, .string ⟨#[120]⟩, .int .i64 (.ofNat 3), .int .i64 (.ofNat 2), .int .i64 (.ofNat 0), .int .i64 (.ofNat 2), .int .i64 (.ofNat 0), .float .f64 0, .int .i64 (.ofNat 0), .int .i64 (.ofNat 0), .float .f64 0, .string ⟨#[114]⟩, .int .i64 (.ofNat 3), .int .i64 (.ofNat 5), .int .i64 (.ofNat 0), .int .i64 (.ofNat 5), .int .i64 (.ofNat 0), .float .f64 0, .int .i64 (.ofNat 0), .int .i64 (.ofNat 0), .float .f64 0, .string ⟨#[107]⟩, .int .i64 (.ofNat 3), .int .i64 (.ofNat 2), .int .i64 (.ofNat 3), .int .i64 (.ofNat 2), .int .i64 (.ofNat 0), .float .f64 0, .int .i64 (.ofNat 0), .int .i64 (.ofNat 0), .float .f64 0] false 10,
  .cells [.int .i64 (.ofNat 1), .int .i64 (.ofNat 2), .int .i64 (.ofNat 2), .string ⟨#[110]⟩, .string ⟨#[]⟩, .int .i64 (.ofNat 3), .int .i64 (.ofNat 0), .int .i64 (.ofNat 0), .int .i64 (.ofNat 0), .float .f64 0, .slice none 0 0, .int .i64 (.ofNat 4), .int .i64 (.ofNat 2), .string ⟨#[]⟩, .string ⟨#[]⟩, .int .i64 (.ofNat 0), .int .i64 (.ofNat 0), .int .i64 (.ofNat 0), .int .i64 (.ofNat 0), .float .f64 0, .slice (some ⟨7, 0, none⟩) 2 2, .slice none 0 0, .slice none 0 0, .string ⟨#[]⟩, .int .i64 (.ofNat 0), .int .i64 (.ofNat 0), .slice none 0 0, .int .i64 (.ofNat 1), .int .i64 (.ofNat 2), .int .i64 (.ofNat 2), .string ⟨#[111]⟩, .string ⟨#[]⟩, .int .i64 (.ofNat 2), .int .i64 (.ofNat 0), .int .i64 (.ofNat 0), .int .i64 (.ofNat 0), .float .f64 0, .slice none 0 0, .int .i64 (.ofNat 4), .int .i64 (.ofNat 2), .string ⟨#[]⟩, .string ⟨#[]⟩, .int .i64 (.ofNat 0), .int .i64 (.ofNat 0), .int .i64 (.ofNat 0), .int .i64 (.ofNat 0), .float .f64 0, .slice (some ⟨8, 0, none⟩) 2 2, .slice none 0 0, .slice none 0 0, .string ⟨#[]⟩, .int .i64 (.ofNat 0), .int .i64 (.ofNat 0), .slice none 0 0, .int .i64 (.ofNat 2), .int .i64 (.ofNat 0), .int .i64 (.ofNat 0), .string ⟨#[]⟩, .string ⟨#[]⟩, .int .i64 (.ofNat 0), .int .i64 (.ofNat 0), .int .i64 (.ofNat 0), .int .i64 (.ofNat 0), .float .f64 0, .slice none 0 0, .int .i64 (.ofNat 2), .int .i64 (.ofNat 1), .string ⟨#[98]⟩, .string ⟨#[]⟩, .int .i64 (.ofNat 1), .int .i64 (.ofNat 0), .int .i64 (.ofNat 0), .int .i64 (.ofNat 0), .float .f64 0, .slice none 0 0, .slice (some ⟨9, 0, none⟩) 1 1, .slice none 0 0, .string ⟨#[]⟩, .int .i64 (.ofNat 0), .int .i64 (.ofNat 0), .slice none 0 0, .int .i64 (.ofNat 1), .int .i64 (.ofNat 2), .int .i64 (.ofNat 5), .string ⟨#[114]⟩, .string ⟨#[]⟩, .int .i64 (.ofNat 5), .int .i64 (.ofNat 0), .int .i64 (.ofNat 0), .int .i64 (.ofNat 0), .float .f64 0, .slice none 0 0, .int .i64 (.ofNat 4), .int .i64 (.ofNat 5), .string ⟨#[]⟩, .string ⟨#[]⟩, .int .i64 (.ofNat 0), .int .i64 (.ofNat 0), .int .i64 (.ofNat 0), .int .i64 (.ofNat 0), .float .f64 0, .slice (some ⟨10, 0, none⟩) 2 2, .slice none 0 0, .slice none 0 0, .string ⟨#[]⟩, .int .i64 (.ofNat 0), .int .i64 (.ofNat 0), .slice none 0 0] false 27,
  .cells [.string ⟨#[97]⟩, .int .i64 (.ofNat 1), .int .i64 (.ofNat 2), .int .i64 (.ofNat 0), .int .i64 (.ofNat 2), .int .i64 (.ofNat 0), .float .f64 0, .int .i64 (.ofNat 0), .int .i64 (.ofNat 0), .float .f64 0, .string ⟨#[98]⟩, .int .i64 (.ofNat 1), .int .i64 (.ofNat 1), .int .i64 (.ofNat 0), .int .i64 (.ofNat 1), .int .i64 (.ofNat 0), .float .f64 0, .int .i64 (.ofNat 0), .int .i64 (.ofNat 0), .float .f64 0, .string ⟨#[111]⟩, .int .i64 (.ofNat 2), .int .i64 (.ofNat 2), .int .i64 (.ofNat 0), .int .i64 (.ofNat 2), .int .i64 (.ofNat 1), .float .f64 0, .int .i64 (.ofNat 2), .int .i64 (.ofNat 9), .float .f64 0, .string ⟨#[110]⟩, .int .i64 (.ofNat 3), .int .i64 (.ofNat 2), .int .i64 (.ofNat 0), .int .i64 (.ofNat 2), .int .i64 (.ofNat 0), .float .f64 0, .int .i64 (.ofNat 0), .int .i64 (.ofNat 0), .float .f64 0, .string ⟨#[120]⟩, .int .i64 (.ofNat 3), .int .i64 (.ofNat 2), .int .i64 (.ofNat 0), .int .i64 (.ofNat 2), .int .i64 (.ofNat 0), .float .f64 0, .int .i64 (.ofNat 0), .int .i64 (.ofNat 0), .float .f64 0, .string ⟨#[114]⟩, .int .i64 (.ofNat 3), .int .i64 (.ofNat 5), .int .i64 (.ofNat 0), .int .i64 (.ofNat 5), .int .i64 (.ofNat 0), .float .f64 0, .int .i64 (.ofNat 0), .int .i64 (.ofNat 0), .float .f64 0, .string ⟨#[107]⟩, .int .i64 (.ofNat 3), .int .i64 (.ofNat 2), .int .i64 (.ofNat 3), .int .i64 (.ofNat 2), .int .i64 (.ofNat 0), .float .f64 0, .int .i64 (.ofNat 0), .int .i64 (.ofNat 0), .float .f64 0] false 10,
  .cells [.int .i64 (.ofNat 2), .int .i64 (.ofNat 0), .int .i64 (.ofNat 3), .int .i64 (.ofNat 0), .int .i64 (.ofNat 0), .int .i64 (.ofNat 0), .float .f64 0, .int .i64 (.ofNat 1), .int .i64 (.ofNat 2), .int .i64 (.ofNat 0), .int .i64 (.ofNat 0), .int .i64 (.ofNat 2), .int .i64 (.ofNat 1), .float .f64 0, .int .i64 (.ofNat 4), .int .i64 (.ofNat 2), .int .i64 (.ofNat 0), .int .i64 (.ofNat 0), .int .i64 (.ofNat 0), .int .i64 (.ofNat 0), .float .f64 0, .int .i64 (.ofNat 18), .int .i64 (.ofNat 0), .int .i64 (.ofNat 3), .int .i64 (.ofNat 0), .int .i64 (.ofNat 0), .int .i64 (.ofNat 0), .float .f64 0, .int .i64 (.ofNat 2), .int .i64 (.ofNat 0), .int .i64 (.ofNat 4), .int .i64 (.ofNat 0), .int .i64 (.ofNat 0), .int .i64 (.ofNat 0), .float .f64 0, .int .i64 (.ofNat 2), .int .i64 (.ofNat 0), .int .i64 (.ofNat 0), .int .i64 (.ofNat 0), .int .i64 (.ofNat 0), .int .i64 (.ofNat 0), .float .f64 0, .int .i64 (.ofNat 4), .int .i64 (.ofNat 2), .int .i64 (.ofNat 0), .int .i64 (.ofNat 0), .int .i64 (.ofNat 0), .int .i64 (.ofNat 0), .float .f64 0, .int .i64 (.ofNat 18), .int .i64 (.ofNat 0), .int .i64 (.ofNat 2), .int .i64 (.ofNat 0), .int .i64 (.ofNat 0), .int .i64 (.ofNat 0), .float .f64 0, .int .i64 (.ofNat 2), .int .i64 (.ofNat 0), .int .i64 (.ofNat 1), .int .i64 (.ofNat 0), .int .i64 (.ofNat 0), .int .i64 (.ofNat 0), .float .f64 0, .int .i64 (.ofNat 21), .int .i64 (.ofNat 0), .int .i64 (.ofNat 13), .int .i64 (.ofNat 0), .int .i64 (.ofNat 0), .int .i64 (.ofNat 0), .float .f64 0, .int .i64 (.ofNat 2), .int .i64 (.ofNat 0), .int .i64 (.ofNat 0), .int .i64 (.ofNat 0), .int .i64 (.ofNat 0), .int .i64 (.ofNat 0), .float .f64 0, .int .i64 (.ofNat 2), .int .i64 (.ofNat 0), .int .i64 (.ofNat 4), .int .i64 (.ofNat 0), .int .i64 (.ofNat 0), .int .i64 (.ofNat 0), .float .f64 0, .int .i64 (.ofNat 19), .int .i64 (.ofNat 0), .int .i64 (.ofNat 6), .int .i64 (.ofNat 3), .int .i64 (.ofNat 0), .int .i64 (.ofNat 0), .float .f64 0, .int .i64 (.ofNat 2), .int .i64 (.ofNat 0), .int .i64 (.ofNat 5), .int .i64 (.ofNat 0), .int .i64 (.ofNat 0), .int .i64 (.ofNat 0), .float .f64 0, .int .i64 (.ofNat 1), .int .i64 (.ofNat 5), .int .i64 (.ofNat 0), .int .i64 (.ofNat 0), .int .i64 (.ofNat 5), .int .i64 (.ofNat 0), .float .f64 4602678819172646912, .int .i64 (.ofNat 4), .int .i64 (.ofNat 5), .int .i64 (.ofNat 0), .int .i64 (.ofNat 0), .int .i64 (.ofNat 0), .int .i64 (.ofNat 0), .float .f64 0, .int .i64 (.ofNat 18), .int .i64 (.ofNat 0), .int .i64 (.ofNat 5), .int .i64 (.ofNat 0), .int .i64 (.ofNat 0), .int .i64 (.ofNat 0), .float .f64 0, .int .i64 (.ofNat 23), .int .i64 (.ofNat 0), .int .i64 (.ofNat 0), .int .i64 (.ofNat 0), .int .i64 (.ofNat 0), .int .i64 (.ofNat 0), .float .f64 0] false 7,
  .cells [.int .i64 (.ofNat 2), .int .i64 (.ofNat 0), .float .f64 0, .int .i64 (.ofNat 1), .int .i64 (.ofNat 0), .float .f64 0, .int .i64 (.ofNat 2), .int .i64 (.ofNat 1), .float .f64 0, .int .i64 (.ofNat 2), .int .i64 (.ofNat 0), .float .f64 0, .int .i64 (.ofNat 2), .int .i64 (.ofNat 0), .float .f64 0, .int .i64 (.ofNat 5), .int .i64 (.ofNat 0), .float .f64 0, .int .i64 (.ofNat 2), .int .i64 (.ofNat 0), .float .f64 0, .int .i64 (.ofNat 2), .int .i64 (.ofNat 0), .float .f64 0, .int .i64 (.ofNat 2), .int .i64 (.ofNat 0), .float .f64 0] false 3,
  .cells [.bool false, .int .i64 (.ofNat 0), .slice none 0 0, .bool false, .slice none 0 0, .slice none 0 0, .slice none 0 0, .int .i64 (.ofNat 0), .bool false, .int .i64 (.ofNat 0), .slice none 0 0, .bool false, .slice none 0 0, .slice none 0 0, .slice none 0 0, .int .i64 (.ofNat 0), .bool false, .int .i64 (.ofNat 0), .slice none 0 0, .bool false, .slice none 0 0, .slice none 0 0, .slice none 0 0, .int .i64 (.ofNat 0), .bool false, .int .i64 (.ofNat 0), .slice none 0 0, .bool false, .slice none 0 0, .slice none 0 0, .slice none 0 0, .int .i64 (.ofNat 0)] true 8,
  .cells [.int .i64 (.ofNat 2), .int .i64 (.ofNat 0), .float .f64 0, .int .i64 (.ofNat 1), .int .i64 (.ofNat 0), .float .f64 0, .int .i64 (.ofNat 2), .int .i64 (.ofNat 1), .float .f64 0, .int .i64 (.ofNat 2), .int .i64 (.ofNat 0), .float .f64 0, .int .i64 (.ofNat 2), .int .i64 (.ofNat 0), .float .f64 0, .int .i64 (.ofNat 5), .int .i64 (.ofNat 0), .float .f64 0, .int .i64 (.ofNat 2), .int .i64 (.ofNat 0), .float .f64 0, .int .i64 (.ofNat 2), .int .i64 (.ofNat 0), .float .f64 0, .int .i64 (.ofNat 2), .int .i64 (.ofNat 0), .float .f64 0] false 3,
  .cells [.int .i64 (.ofNat 2), .int .i64 (.ofNat 2), .string ⟨#[110]⟩, .string ⟨#[]⟩, .int .i64 (.ofNat 3), .int .i64 (.ofNat 0), .int .i64 (.ofNat 0), .int .i64 (.ofNat 0), .float .f64 0, .slice none 0 0, .int .i64 (.ofNat 1), .int .i64 (.ofNat 2), .string ⟨#[]⟩, .string ⟨#[]⟩, .int .i64 (.ofNat 0), .int .i64 (.ofNat 0), .int .i64 (.ofNat 2), .int .i64 (.ofNat 1), .float .f64 0, .slice none 0 0] true 10,
  .cells [.int .i64 (.ofNat 2), .int .i64 (.ofNat 2), .string ⟨#[120]⟩, .string ⟨#[]⟩, .int .i64 (.ofNat 4), .int .i64 (.ofNat 0), .int .i64 (.ofNat 0), .int .i64 (.ofNat 0), .float .f64 0, .slice none 0 0, .int .i64 (.ofNat 2), .int .i64 (.ofNat 2), .string ⟨#[97]⟩, .string ⟨#[]⟩, .int .i64 (.ofNat 0), .int .i64 (.ofNat 0), .int .i64 (.ofNat 0), .int .i64 (.ofNat 0), .float .f64 0, .slice none 0 0] true 10,
  .cells [.int .i64 (.ofNat 1), .int .i64 (.ofNat 3), .int .i64 (.ofNat 2), .string ⟨#[107]⟩, .string ⟨#[]⟩, .int .i64 (.ofNat 6), .int .i64 (.ofNat 3), .int .i64 (.ofNat 0), .int .i64 (.ofNat 0), .float .f64 0, .slice (some ⟨11, 0, none⟩) 1 1, .int .i64 (.ofNat 2), .int .i64 (.ofNat 2), .string ⟨#[97]⟩, .string ⟨#[]⟩, .int .i64 (.ofNat 0), .int .i64 (.ofNat 0), .int .i64 (.ofNat 0), .int .i64 (.ofNat 0), .float .f64 0, .slice none 0 0, .slice none 0 0, .slice none 0 0, .string ⟨#[]⟩, .int .i64 (.ofNat 0), .int .i64 (.ofNat 0), .slice none 0 0] false 27,
  .cells [.int .i64 (.ofNat 2), .int .i64 (.ofNat 5), .string ⟨#[114]⟩, .string ⟨#[]⟩, .int .i64 (.ofNat 5), .int .i64 (.ofNat 0), .int .i64 (.ofNat 0), .int .i64 (.ofNat 0), .float .f64 0, .slice none 0 0, .int .i64 (.ofNat 1), .int .i64 (.ofNat 5), .string ⟨#[]⟩, .string ⟨#[]⟩, .int .i64 (.ofNat 0), .int .i64 (.ofNat 0), .int .i64 (.ofNat 5), .int .i64 (.ofNat 0), .float .f64 4602678819172646912, .slice none 0 0] true 10,
  .cells [.int .i64 (.ofNat 2), .int .i64 (.ofNat 2), .string ⟨#[120]⟩, .string ⟨#[]⟩, .int .i64 (.ofNat 4), .int .i64 (.ofNat 0), .int .i64 (.ofNat 0), .int .i64 (.ofNat 0), .float .f64 0, .slice none 0 0] false 10]
end Go.Proofs.YtpbnlbbieaokoaaGreatDoor.Ev
/-
  What annunciator/pars.Parse answers at one place. (Printed by tools/ptgen.py.)
-/
namespace Go.Proofs.YtpbnlbbieaokoaaGreatDoor.Ev
open Go
def parLArgs : List Value := [.string ⟨#[105,110,32,97,32,58,32,105,110,116,59,32,105,110,32,98,32,58,32,98,111,111,108,59,32,111,117,116,32,111,32,58,32,105,110,116,32,58,61,32,49,44,32,57,59,32,118,97,114,32,110,32,58,32,105,110,116,59,32,118,97,114,32,120,32,58,32,105,110,116,59,32,118,97,114,32,114,32,58,32,114,101,97,108,59,32,118,97,114,32,107,32,58,32,105,110,116,91,51,93,59,32,110,32,58,61,32,110,32,43,32,49,59,32,111,32,58,61,32,120,32,43,32,97,59,32,105,102,32,98,32,116,104,101,110,32,107,91,120,93,32,58,61,32,97,59,32,101,110,100,32,114,32,58,61,32,114,32,43,32,48,46,53,59]⟩]
def parLNm : List Nat := [600, 1472, 750, 933, 1289, 1449, 1184]
def parLR : Value := .tuple #[.agg #[.slice (some ⟨0, 0, none⟩) 7 7, .slice (some ⟨1, 0, none⟩) 4 4], .int .i64 (.ofNat 0), .bool true]
def parLObjs : List AObj := [.cells [.string ⟨#[97]⟩, .int .i64 (.ofNat 1), .int .i64 (.ofNat 2), .int .i64 (.ofNat 0), .int .i64 (.ofNat 2), .int .i64 (.ofNat 0), .float .f64 0, .int .i64 (.ofNat 0), .int .i64 (.ofNat 0), .float .f64 0, .string ⟨#[98]⟩, .int .i64 (.ofNat 1), .int .i64 (.ofNat 1), .int .i64 (.ofNat 0), .int .i64 (.ofNat 1), .int .i64 (.ofNat 0), .float .f64 0, .int .i64 (.ofNat 0), .int .i64 (.ofNat 0), .float .f64 0, .string ⟨#[111]⟩, .int .i64 (.ofNat 2), .int .i64 (.ofNat 2), .int .i64 (.ofNat 0), .int .i64 (.ofNat 2), .int .i64 (.ofNat 1), .float .f64 0, .int .i64 (.ofNat 2), .int .i64 (.ofNat 9), .float .f64 0, .string ⟨#[110]⟩, .int .i64 (.ofNat 3), .int .i64 (.ofNat 2), .int .i64 (.ofNat 0), .int .i64 (.ofNat 2), .int .i64 (.ofNat 0), .float .f64 0, .int .i64 (.ofNat 0), .int .i64 (.ofNat 0), .float .f64 0, .string ⟨#[120]⟩, .int .i64 (.ofNat 3), .int .i64 (.ofNat 2), .int .i64 (.ofNat 0), .int .i64 (.ofNat 2), .int .i64 (.ofNat 0), .float .f64 0, .int .i64 (.ofNat 0), .int .i64 (.ofNat 0), .float .f64 0, .string ⟨#[114]⟩, .int .i64 (.ofNat 3), .int .i64 (.ofNat 5), .int .i64 (.ofNat 0), .int .i64 (.ofNat 5), .int .i64 (.ofNat 0), .float .f64 0, .int .i64 (.ofNat 0), .int .i64 (.ofNat 0), .float .f64 0, .string ⟨#[107]⟩, .int .i64 (.ofNat 3), .int .i64 (.ofNat 2), .int .i64 (.ofNat 3), .int .i64 (.ofNat 2), .int .i64 (.ofNat 0), .float .f64 0, .int .i64 (.ofNat 0), .int .i64 (.ofNat 0), .float .f64 0] false 10,
  .cells [.int .i64 (.ofNat 1), .int .i64 (.ofNat 2), .int .i64 (.ofNat 0), .string ⟨#[110]⟩, .string ⟨#[]⟩, .int .i64 (.ofNat 0), .int .i64 (.ofNat 0), .int .i64 (.ofNat 0), .int .i64 (.ofNat 0), .float .f64 0, .slice none 0 0, .int .i64 (.ofNat 4), .int .i64 (.ofNat 0), .string ⟨#[]⟩, .string ⟨#[]⟩, .int .i64 (.ofNat 0), .int .i64 (.ofNat 0), .int .i64 (.ofNat 0), .int .i64 (.ofNat 0), .float .f64 0, .slice (some ⟨2, 0, none⟩) 2 2, .slice none 0 0, .slice none 0 0, .string ⟨#[]⟩, .int .i64 (.ofNat 0), .int .i64 (.ofNat 0), .slice none 0 0, .int .i64 (.ofNat 1), .int .i64 (.ofNat 2), .int .i64 (.ofNat 0), .string ⟨#[111]⟩, .string ⟨#[]⟩, .int .i64 (.ofNat 0), .int .i64 (.ofNat 0), .int .i64 (.ofNat 0), .int .i64 (.ofNat 0), .float .f64 0, .slice none 0 0, .int .i64 (.ofNat 4), .int .i64 (.ofNat 0), .string ⟨#[]⟩, .string ⟨#[]⟩, .int .i64 (.ofNat 0), .int .i64 (.ofNat 0), .int .i64 (.ofNat 0), .int .i64 (.ofNat 0), .float .f64 0, .slice (some ⟨3, 0, none⟩) 2 2, .slice none 0 0, .slice none 0 0, .string ⟨#[]⟩, .int .i64 (.ofNat 0), .int .i64 (.ofNat 0), .slice none 0 0, .int .i64 (.ofNat 2), .int .i64 (.ofNat 0), .int .i64 (.ofNat 0), .string ⟨#[]⟩, .string ⟨#[]⟩, .int .i64 (.ofNat 0), .int .i64 (.ofNat 0), .int .i64 (.ofNat 0), .int .i64 (.ofNat 0), .float .f64 0, .slice none 0 0, .int .i64 (.ofNat 2), .int .i64 (.ofNat 0), .string ⟨#[98]⟩, .string ⟨#[]⟩, .int .i64 (.ofNat 0), .int .i64 (.ofNat 0), .int .i64 (.ofNat 0), .int .i64 (.ofNat 0), .float .f64 0, .slice none 0 0, .slice (some ⟨4, 0, none⟩) 1 1, .slice none 0 0, .string ⟨#[]⟩, .int .i64 (.ofNat 0), .int .i64 (.ofNat 0), .slice none 0 0, .int .i64 (.ofNat 1), .int .i64 (.ofNat 2), .int .i64 (.ofNat 0), .string ⟨#[114]⟩, .string ⟨#[]⟩, .int .i64 (.ofNat 0), .int .i64 (.ofNat 0), .int .i64 (.ofNat 0), .int .i64 (.ofNat 0), .float .f64 0, .slice none 0 0, .int .i64 (.ofNat 4), .int .i64 (.ofNat 0), .string ⟨#[]⟩, .string ⟨#[]⟩, .int .i64 (.ofNat 0), .int .i64 (.ofNat 0), .int .i64 (.ofNat 0), .int .i64 (.ofNat 0), .float .f64 0, .slice (some ⟨5, 0, none⟩) 2 2, .slice none 0 0, .slice none 0 0, .string ⟨#[]⟩, .int .i64 (.ofNat 0), .int .i64 (.ofNat 0), .slice none 0 0] false 27,
  .cells [.int .i64 (.ofNat 2), .int .i64 (.ofNat 0), .string ⟨#[110]⟩, .string ⟨#[]⟩, .int .i64 (.ofNat 0), .int .i64 (.ofNat 0), .int .i64 (.ofNat 0), .int .i64 (.ofNat 0), .float .f64 0, .slice none 0 0, .int .i64 (.ofNat 1), .int .i64 (.ofNat 0), .string ⟨#[]⟩, .string ⟨#[]⟩, .int .i64 (.ofNat 0), .int .i64 (.ofNat 0), .int .i64 (.ofNat 3), .int .i64 (.ofNat 1), .float .f64 0, .slice none 0 0] true 10,
  .cells [.int .i64 (.ofNat 2), .int .i64 (.ofNat 0), .string ⟨#[120]⟩, .string ⟨#[]⟩, .int .i64 (.ofNat 0), .int .i64 (.ofNat 0), .int .i64 (.ofNat 0), .int .i64 (.ofNat 0), .float .f64 0, .slice none 0 0, .int .i64 (.ofNat 2), .int .i64 (.ofNat 0), .string ⟨#[97]⟩, .string ⟨#[]⟩, .int .i64 (.ofNat 0), .int .i64 (.ofNat 0), .int .i64 (.ofNat 0), .int .i64 (.ofNat 0), .float .f64 0, .slice none 0 0] true 10,
  .cells [.int .i64 (.ofNat 1), .int .i64 (.ofNat 3), .int .i64 (.ofNat 0), .string ⟨#[107]⟩, .string ⟨#[]⟩, .int .i64 (.ofNat 0), .int .i64 (.ofNat 0), .int .i64 (.ofNat 0), .int .i64 (.ofNat 0), .float .f64 0, .slice (some ⟨6, 0, none⟩) 1 1, .int .i64 (.ofNat 2), .int .i64 (.ofNat 0), .string ⟨#[97]⟩, .string ⟨#[]⟩, .int .i64 (.ofNat 0), .int .i64 (.ofNat 0), .int .i64 (.ofNat 0), .int .i64 (.ofNat 0), .float .f64 0, .slice none 0 0, .slice none 0 0, .slice none 0 0, .string ⟨#[]⟩, .int .i64 (.ofNat 0), .int .i64 (.ofNat 0), .slice none 0 0] false 27,
  .cells [.int .i64 (.ofNat 2), .int .i64 (.ofNat 0), .string ⟨#[114]⟩, .string ⟨#[]⟩, .int .i64 (.ofNat 0), .int .i64 (.ofNat 0), .int .i64 (.ofNat 0), .int .i64 (.ofNat 0), .float .f64 0, .slice none 0 0, .int .i64 (.ofNat 1), .int .i64 (.ofNat 0), .string ⟨#[]⟩, .string ⟨#[]⟩, .int .i64 (.ofNat 0), .int .i64 (.ofNat 0), .int .i64 (.ofNat 5), .int .i64 (.ofNat 0), .float .f64 4602678819172646912, .slice none 0 0] true 10,
  .cells [.int .i64 (.ofNat 2), .int .i64 (.ofNat 0), .string ⟨#[120]⟩, .string ⟨#[]⟩, .int .i64 (.ofNat 0), .int .i64 (.ofNat 0), .int .i64 (.ofNat 0), .int .i64 (.ofNat 0), .float .f64 0, .slice none 0 0] true 10]
end Go.Proofs.YtpbnlbbieaokoaaGreatDoor.Ev
/-
  A function's own code, run along a way that is told: where a truth is left open, the way says which it is, and what has to hold is gathered.
-/
set_option linter.unusedVariables false
set_option linter.unusedSimpArgs false
namespace Go.Proofs.YtpbnlbbieaokoaaGreatDoor.Ev
open Go Go.RowKit

noncomputable section way
abbrev OR : Type := Re × List Bool × List (Value × Bool)
def isT (T : Nat) (c : Operand) : Bool := match c with
  | .tmp t => Nat.beq t T
  | _ => false
def seqO (x : OR) (k : AFr → ASt → List Bool → OR) : OR := match x with
  | (.ok (.normal, f, st), os, cs) => match k f st os with
    | (r, os', cs') => (r, os', cs ++ cs')
  | x => x
def iterO (g : AFr → ASt → List Bool → OR) : Nat → AFr → ASt → List Bool → OR
  | 0, _, _, os => (.er "loop: too long", os, [])
  | n + 1, f, st, os => seqO (g f st os) (iterO g n)
def consO (v : Value) (q : Bool) (x : OR) : OR := match x with
  | (r, os, cs) => (r, os, (v, q) :: cs)
def mapO (h : Re → Re) (x : OR) : OR := match x with
  | (r, os, cs) => (h r, os, cs)
def codeO (P : Program) (self : Self) (fuel T : Nat) : Code → AFr → ASt → List Bool → OR
  | .seq a b, f, st, os => seqO (codeO P self fuel T a f st os) (codeO P self fuel T b)
  | .cond c a b, f, st, os => cond (isT T c)
    (match os with
      | true :: os => consO (evF f c) true (codeO P self fuel T a f st os)
      | false :: os => consO (evF f c) false (codeO P self fuel T b f st os)
      | [] => (.er "no way", [], []))
    (match evF f c with
      | .bool true => codeO P self fuel T a f st os
      | .bool false => codeO P self fuel T b f st os
      | _ => (.er "cond", os, []))
  | .block id c, f, st, os => mapO (blkF id) (codeO P self fuel T c f st os)
  | .loop c, f, st, os => iterO (codeO P self fuel T c) fuel f st os
  | c, f, st, os => (codeF P self fuel c f st, os, [])
def Holds (cs : List (Value × Bool)) : Prop := ∀ p ∈ cs, p.1 = .bool p.2
theorem Holds.left {a b : List (Value × Bool)} (h : Holds (a ++ b)) : Holds a := fun p hp => h p (List.mem_append_left _ hp)
theorem Holds.right {a b : List (Value × Bool)} (h : Holds (a ++ b)) : Holds b := fun p hp => h p (List.mem_append_right _ hp)
/-- what an answer along a way says of the run itself -/
def Along (x : OR) (r0 : Re) : Prop := Holds x.2.2 → ∀ t, x.1 = .ok t → r0 = .ok t
theorem seqO_sound {x : OR} {k : AFr → ASt → List Bool → OR} {r0 : Re} {k0 : AFr → ASt → Re} (h1 : Along x r0) (h2 : ∀ f st os, Along (k f st os) (k0 f st)) : Along (seqO x k) (seqF r0 k0) := by
  intro hc t ht
  obtain ⟨r, os, cs⟩ := x
  cases r with
  | er s p => cases ht
  | ok u =>
    obtain ⟨x, f, st⟩ := u
    cases x with
    | normal =>
      have hc : Holds (cs ++ (k f st os).2.2) := hc
      have ht : (k f st os).1 = .ok t := ht
      rw [h1 hc.left _ rfl]
      exact h2 f st os hc.right t ht
    | exit i => rw [h1 hc _ rfl]; exact ht
    | ret => rw [h1 hc _ rfl]; exact ht
    | panic v => rw [h1 hc _ rfl]; exact ht
theorem iterO_sound {g : AFr → ASt → List Bool → OR} {g0 : AFr → ASt → Re} (hg : ∀ f st os, Along (g f st os) (g0 f st)) : ∀ (n : Nat) (f : AFr) (st : ASt) (os : List Bool), Along (iterO g n f st os) (iter g0 n f st) := by
  intro n
  induction n with
  | zero => intro f st os _ t ht; cases ht
  | succ n ih =>
    intro f st os
    have := seqO_sound (hg f st os) ih
    rw [seqF_eq] at this
    exact this
theorem other_sound {P : Program} {self : Self} {fuel T : Nat} {c : Code} (h : ∀ f st os, codeO P self fuel T c f st os = (codeF P self fuel c f st, os, [])) : ∀ (f : AFr) (st : ASt) (os : List Bool), Along (codeO P self fuel T c f st os) (evCode P self fuel c f st) := by
  intro f st os _ t ht
  rw [h] at ht
  have ht : codeF P self fuel c f st = .ok t := ht
  rw [codeF_eq] at ht
  exact ht
theorem codeO_sound (P : Program) (self : Self) (fuel T : Nat) (c : Code) : ∀ (f : AFr) (st : ASt) (os : List Bool), Along (codeO P self fuel T c f st os) (evCode P self fuel c f st) := by
  induction c with
  | seq a b iha ihb =>
    intro f st os
    rw [codeO]
    have := seqO_sound (iha f st os) ihb
    rw [seqF_eq] at this
    conv => arg 2; unfold evCode
    exact this
  | cond c a b iha ihb =>
    intro f st os
    have e : codeO P self fuel T (.cond c a b) f st os = cond (isT T c)
      (match os with
        | true :: os => consO (evF f c) true (codeO P self fuel T a f st os)
        | false :: os => consO (evF f c) false (codeO P self fuel T b f st os)
        | [] => (.er "no way", [], []))
      (match evF f c with
        | .bool true => codeO P self fuel T a f st os
        | .bool false => codeO P self fuel T b f st os
        | _ => (.er "cond", os, [])) := rfl
    rw [e]
    clear e
    conv => arg 2; unfold evCode
    cases hT : isT T c with
    | true =>
      simp only [cond_true]
      intro hc t ht
      cases os with
      | nil => cases ht
      | cons q os =>
        cases q with
        | true =>
          have hc : Holds ((evF f c, true) :: (codeO P self fuel T a f st os).2.2) := hc
          have ht : (codeO P self fuel T a f st os).1 = .ok t := ht
          have h0 : evF f c = .bool true := hc _ (List.mem_cons_self ..)
          rw [evF_eq] at h0
          rw [h0]
          exact iha f st os (fun p hp => hc p (List.mem_cons_of_mem _ hp)) t ht
        | false =>
          have hc : Holds ((evF f c, false) :: (codeO P self fuel T b f st os).2.2) := hc
          have ht : (codeO P self fuel T b f st os).1 = .ok t := ht
          have h0 : evF f c = .bool false := hc _ (List.mem_cons_self ..)
          rw [evF_eq] at h0
          rw [h0]
          exact ihb f st os (fun p hp => hc p (List.mem_cons_of_mem _ hp)) t ht
    | false =>
      simp only [cond_false]
      rw [evF_eq]
      intro hc t ht
      split at ht
      · rename_i h0; rw [h0] at hc ⊢; exact iha f st os hc t ht
      · rename_i h0; rw [h0] at hc ⊢; exact ihb f st os hc t ht
      · cases ht
  | block id c ih =>
    intro f st os hc t ht
    have e : codeO P self fuel T (.block id c) f st os = mapO (blkF id) (codeO P self fuel T c f st os) := rfl
    rw [e] at hc ht
    clear e
    generalize hx : codeO P self fuel T c f st os = x at hc ht
    obtain ⟨r, os', cs⟩ := x
    have hc : Holds cs := hc
    have ht : blkF id r = .ok t := ht
    have h1 : ∀ u, r = .ok u → evCode P self fuel c f st = .ok u := fun u hu => by
      have := ih f st os
      rw [hx] at this
      exact this hc u hu
    cases r with
    | er s p => cases ht
    | ok u =>
      conv => lhs; unfold evCode
      rw [h1 u rfl]
      obtain ⟨x, f', st'⟩ := u
      cases x with
      | exit i =>
        have ht : @Bool.rec (fun _ => Re) (.ok (.exit i, f', st')) (.ok (.normal, f', st')) (Nat.beq i id) = .ok t := ht
        simp only
        rw [← ht]
        cases Nat.beq i id <;> rfl
      | normal => exact ht
      | ret => exact ht
      | panic v => exact ht
  | loop c ih =>
    intro f st os
    rw [codeO]
    conv => arg 2; unfold evCode
    exact iterO_sound ih fuel f st os
  | _ => exact other_sound (fun _ _ _ => rfl)
/-- the answer of a call along a way: is it true? and what has to hold -/
def wayB (P : Program) (C : Told) (g : FuncId) (args : List Value) (T : Nat) (os : List Bool) : Bool × List (Value × Bool) := match P.funcs.toList[g]? with
  | some fn => match fn.body with
    | some body => match codeO P (funF P C 100000 99) 100000 T body (AFr.mk (maxG (lenF args) fn.ntmps) (argsF args) []) st0 os with
      | (.ok (.ret, f, st), _, cs) => (match f.defers with
        | [] => (match resF P fn st f with
          | .ok (.bool true) => (true, cs)
          | _ => (false, cs))
        | _ => (false, cs))
      | (_, _, cs) => (false, cs)
    | none => (false, [])
  | none => (false, [])
theorem way_true {P : Program} {C : Told} {g : FuncId} {args : List Value} {T : Nat} {os : List Bool} {cs : List (Value × Bool)} (h : wayB P C g args T os = (true, cs)) (hc : Holds cs) : ∃ st', evFunC P C 100000 100 g args st0 = .ok (.returned (.bool true), st') ∨ ∃ c, C g = some c := by
  cases hC : C g with
  | some c => exact ⟨st0, .inr ⟨c, rfl⟩⟩
  | none =>
  unfold wayB at h
  have hfun : evFunC P C 100000 100 g args st0 = evFun1 P 100000 (evFunC P C 100000 99) g args st0 := by
    show (match C g with | some c => c.run args st0 | none => evFun1 P 100000 (evFunC P C 100000 99) g args st0) = _
    rw [hC]
  rw [hfun]
  unfold evFun1
  split at h
  rotate_left
  · cases h
  rename_i fn hfn
  rw [hfn]
  simp only
  split at h
  rotate_left
  · cases h
  rename_i body hb
  rw [hb]
  simp only
  generalize hx : codeO P (funF P C 100000 99) 100000 T body (AFr.mk (maxG (lenF args) fn.ntmps) (argsF args) []) st0 os = x at h
  have hs := codeO_sound P (funF P C 100000 99) 100000 T body (AFr.mk (maxG (lenF args) fn.ntmps) (argsF args) []) st0 os
  rw [hx] at hs
  split at h
  rotate_left
  · cases h
  rename_i f st os' cs'
  have hcs : cs' = cs := by
    split at h
    · split at h
      · cases h; rfl
      · cases h
    · cases h
  subst hcs
  have hfF : (funF P C 100000 99 : Self) = evFunC P C 100000 99 := funF_eq P C 100000 99
  have he := hs hc _ rfl
  rw [maxG_eq, lenF_eq, argsF_eq, hfF] at he
  rw [he]
  simp only
  split at h
  rotate_left
  · cases h
  rename_i hd
  rw [hd]
  simp only
  split at h
  rotate_left
  · cases h
  rename_i hr
  rw [resF_eq] at hr
  rw [hr]
  exact ⟨st, .inl rfl⟩
/-- **a call along a way**: it answers true, in whatever world -/
theorem way_law {P : Program} {C : Told} {g : FuncId} {args : List Value} {T : Nat} {os : List Bool} {cs : List (Value × Bool)} (hm : P.follows .mixedOrders = true) (hC : ToldS P C) (hg : (C g).isNone = true) (hlit : args.all (ground 1) = true) (h : wayB P C g args T os = (true, cs)) (hc : Holds cs) (w : World) (hgl : GlA w) :
    Calls P g args.toArray w fun e w' => e = .returned (.bool true) ∧ RowKit.Below w.heap.size w w' := by
  obtain ⟨st, he | ⟨c, he⟩⟩ := way_true h hc
  rotate_left
  · rw [he] at hg; cases hg
  have hwf : Wf st0 := fun x o e => by cases e
  obtain ⟨_, h4⟩ := evFunC_sound hm hC 100000 100 g args st0 _ st hwf he
  have hw : WR (fun _ => none) st0.h.get w := by
    refine ⟨?_, ?_, ?_, ?_, fun b hb => ⟨(hgl b hb).1, (hgl b hb).2, fun ⟨a, o, s, e, _⟩ => by cases e⟩⟩
    · intro a s e; cases e
    · intro a o e; cases e
    · intro a b oa ob sa sb e; cases e
    · intro b hb; obtain ⟨a, s, e, _⟩ := hb; cases e
  have hlv : VRL (fun _ => none) args args.toArray.toList := ground_list (n := 1) hlit
  refine (h4 (fun _ => none) w args.toArray hlv hw (fun _ _ _ => rfl)).mono fun e w' he => ?_
  obtain ⟨ρ', ⟨v', rfl, hv⟩, hmv⟩ := he
  cases hv
  exact ⟨rfl, hmv.os, hmv.tape, hmv.output, hmv.size, fun k hk => hmv.frm k hk fun ⟨a, o, s, e1, _⟩ => by cases e1⟩
end way
end Go.Proofs.YtpbnlbbieaokoaaGreatDoor.Ev
