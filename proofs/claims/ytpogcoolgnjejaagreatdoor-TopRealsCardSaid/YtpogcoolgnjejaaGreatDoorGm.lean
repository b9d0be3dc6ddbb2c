/-
  The contracts of crc.table and crc.Sum: for every slice of bytes the sum is 'crcSum' of what it reads, and nothing that was there is changed.
-/
import Derived.Test.YtpogcoolgnjejaaGreatDoorBase
import Derived.Test.YtpogcoolgnjejaaGreatDoorCrcTab
import Derived.Test.YtpogcoolgnjejaaGreatDoorGh
namespace Go.Proofs.YtpogcoolgnjejaaGreatDoor
open Go.RowKit

def tabL : List Nat := [0, 498536548, 997073096, 651767980, 1994146192, 1802195444, 1303535960, 1342533948, 3988292384, 4027552580, 3604390888, 3412177804, 2607071920, 2262029012, 2685067896, 3183342108]
def tab (i : Nat) : Nat := tabL.getD i 0
def nib (c : Nat) : Nat := (c / 16) ^^^ tab (c % 16)
def byteStep (c x : Nat) : Nat := nib (nib (c ^^^ x))
def crcRaw (bs : List Nat) : Nat := bs.foldl byteStep 4294967295
def crcSum (bs : List Nat) : Nat := 4294967295 ^^^ crcRaw bs

theorem tab_lt (i : Nat) : tab i < 4294967296 := by
  unfold tab
  by_cases h : i < 16
  · have : ∀ i : Fin 16, tabL.getD i.val 0 < 4294967296 := by decide
    exact this ⟨i, h⟩
  · simp [List.getD, List.getElem?_eq_none (l := tabL) (i := i) (by simp [tabL]; omega)]
theorem tab_key (i : Nat) (h : i < 16) : tabA[i]? = some (.int .u32 (tab i : Nat)) := by
  have key : tabA.toList = tabL.map (fun n => Value.int .u32 (n : Nat)) := rfl
  rw [← Array.getElem?_toList, key, List.getElem?_map]
  unfold tab
  have : i < tabL.length := by simpa [tabL] using h
  simp [List.getD, List.getElem?_eq_getElem this]
theorem nib_lt (c : Nat) (h : c < 4294967296) : nib c < 4294967296 := by
  unfold nib
  exact Nat.xor_lt_two_pow (n := 32) (by omega) (by have := tab_lt (c % 16); omega)
theorem xor_lt (c x : Nat) (h : c < 4294967296) (hx : x < 256) : c ^^^ x < 4294967296 := Nat.xor_lt_two_pow (n := 32) h (by omega)
theorem byteStep_lt (c x : Nat) (h : c < 4294967296) (hx : x < 256) : byteStep c x < 4294967296 := nib_lt _ (nib_lt _ (xor_lt _ _ h hx))
theorem and15 (n : Int) (h : 0 ≤ n) (h' : n < 4294967296) : bits .and .u32 n 15 = n % 16 := by
  obtain ⟨A, rfl⟩ := Int.eq_ofNat_of_zero_le h
  have h2 := Nat.and_two_pow_sub_one_eq_mod A 4
  simp at h2
  have h3 := u32_and_nat A 15 (by omega) (by omega)
  rw [h2] at h3
  simpa using h3
theorem foldl_lt (bs : List Nat) (hb : ∀ i, i < bs.length → bs.getD i 0 < 256) (k : Nat) (hk : k ≤ bs.length) : (bs.take k).foldl byteStep 4294967295 < 4294967296 := by
  induction k with
  | zero => simp
  | succ k ih =>
    have hlt : k < bs.length := by omega
    have h := hb k hlt
    rw [List.take_succ_eq_append_getElem hlt, List.foldl_append]
    simp only [List.getD, List.getElem?_eq_getElem hlt, Option.getD_some] at h
    exact byteStep_lt _ _ (ih (by omega)) h
theorem crcRaw_lt (bs : List Nat) (hb : ∀ i, i < bs.length → bs.getD i 0 < 256) : crcRaw bs < 4294967296 := by
  have := foldl_lt bs hb bs.length (Nat.le_refl _)
  rwa [List.take_length] at this
theorem crcSum_lt (bs : List Nat) (hb : ∀ i, i < bs.length → bs.getD i 0 < 256) : crcSum bs < 4294967296 :=
  Nat.xor_lt_two_pow (n := 32) (by decide) (crcRaw_lt bs hb)
theorem crcFold_succ (bs : List Nat) (k : Nat) (hlt : k < bs.length) : (bs.take (k+1)).foldl byteStep 4294967295 = byteStep ((bs.take k).foldl byteStep 4294967295) (bs.getD k 0) := by
  rw [List.take_succ_eq_append_getElem hlt, List.foldl_append]
  simp [List.getD, List.getElem?_eq_getElem hlt]
theorem nib_walk (c : Nat) (h : c < 4294967296) : bits .xor .u32 ((c : Int) / 16) (tab (c % 16) : Nat) = (nib c : Nat) := by
  have h1 : ((c : Int) / 16) = ((c / 16 : Nat) : Int) := by simp
  rw [h1, u32_xor_nat _ _ (by omega) (tab_lt _)]
  rfl
theorem not_walk (c : Nat) (h : c < 4294967296) : bits .xor .u32 IntKind.u32.max (c : Int) = ((4294967295 ^^^ c : Nat) : Int) :=
  u32_xor_nat 4294967295 c (by decide) h

set_option maxHeartbeats 400000 in
theorem sum_exactW (v : Value) (bs : List Nat) (w : World) (hv : BytesW w v bs) :
    Calls Tryz.prog 303 #[v] w fun e w' => e = .returned (.int .u32 (crcSum bs : Nat)) ∧ w' = (w.alloc (.cells tabA 421)).alloc (.cells tabA 421) := by
  obtain ⟨a, cap, rfl, hm, hb, hc⟩ := hv
  unfold maxLen at hm
  go_enter Tryz.func303, Tryz.ntmps303
  go_wp2_with (go_at_call 334; refine (table_any _).mono ?_; rintro e w' ⟨rfl, rfl⟩; unfold tabA)
  have hW : ∃ W, W = (w.alloc (.cells tabA 421)).alloc (.cells tabA 421) := ⟨_, rfl⟩
  obtain ⟨W, hW⟩ := hW
  have h1 : ∀ i, i < 16 → W.cell? ⟨w.heap.size + 1, i, none⟩ = some (.int .u32 (tab i : Nat)) := by
    intro i hi
    rw [hW]
    have := World.cell?_alloc_new (w.alloc (.cells tabA 421)) tabA 421 i
    simp only [World.size_alloc] at this
    exact this.trans (tab_key i hi)
  have h2 : ∀ b o, b < w.heap.size → W.cell? ⟨b, o, none⟩ = w.cell? ⟨b, o, none⟩ := by
    intro b o hlt
    rw [hW, World.cell?_alloc_lt _ _ _ (by simp; omega), World.cell?_alloc_lt _ _ _ (by simpa using hlt)]
  unfold tabA at hW
  rw [← hW]
  have HW := Lib.hid hW; clear hW
  go_loop [4, 10] (fun c i => ∃ k : Nat, k ≤ bs.length ∧ i = .int .i64 k ∧ c = .int .u32 ((bs.take k).foldl byteStep 4294967295 : Nat)) (fun _ i => bs.length - (intOf i).toNat)
  case atStart => exact ⟨0, Nat.zero_le _, rfl, rfl⟩
  case round =>
    obtain ⟨k, hk, rfl, rfl⟩ := hrel
    by_cases hlt : k < bs.length
    · have hC := foldl_lt bs hb k hk
      have hX := hb k hlt
      obtain ⟨b, off, rfl, hbl, hcell⟩ := hc (by intro h; simp [h] at hlt)
      have hx := (h2 b (off + k) hbl).trans (hcell k hlt)
      have HS := Lib.hid (crcFold_succ bs k hlt)
      clear hcell
      revert HS hC hX hx
      generalize (bs.take k).foldl byteStep 4294967295 = C
      generalize bs.getD k 0 = x
      intro hC hX hx HS
      clear hb hc h2
      have q1 := xor_lt C x hC hX
      have q2 := nib_lt _ q1
      have e1 := u32_xor_nat C x hC (by omega)
      have e2 := and15 (C ^^^ x : Nat) (by omega) (by omega)
      have e3 := nib_walk _ q1
      have e4 := and15 (nib (C ^^^ x) : Nat) (by omega) (by omega)
      have e5 := nib_walk _ q2
      have c1 := h1 ((C ^^^ x) % 16) (by omega)
      have c2 := h1 (nib (C ^^^ x) % 16) (by omega)
      clear h1
      go_wp2
      refine wp_loop_rounds 3 ?_
      iterate 3 (rw [rounds_succ]; go_wp2)
      exact ⟨⟨k + 1, by omega, by go_num, by rw [HS.out]; rfl⟩, by simp [intOf]; omega⟩
    · have e1 := not_walk _ (foldl_lt bs hb k hk)
      have hk2 : k = bs.length := by omega
      have HK := Lib.hid hk2
      clear hb hc h2 h1 hk2
      go_wp2
      go_ret
      exact ⟨ret_int (by simp only [HK.out, List.take_length]; rfl), HW.out⟩

theorem sum_anyW (v : Value) (bs : List Nat) (w : World) (hv : BytesW w v bs) :
    Calls Tryz.prog 303 #[v] w fun e w' => e = .returned (.int .u32 (crcSum bs : Nat)) ∧ Below w.heap.size w w' :=
  (sum_exactW v bs w hv).mono fun _ _ ⟨he, hw⟩ => ⟨he, by subst hw; exact ((Below.refl _ _).alloc (Nat.le_refl _) _).alloc (by simp) _⟩

theorem sum_any (v : Value) (bs : List Nat) (w : World) (hv : Bytes w v bs) :
    Calls Tryz.prog 303 #[v] w fun e w' => e = .returned (.int .u32 (crcSum bs : Nat)) ∧ Below w.heap.size w w' := sum_anyW v bs w hv.weak
end Go.Proofs.YtpogcoolgnjejaaGreatDoor
/-
  A function of bytes that lie in cells, known or not, told: its answer is a number.
-/
set_option linter.unusedVariables false
namespace Go.Proofs.YtpogcoolgnjejaaGreatDoor.Ev
open Go Go.Proofs Go.Proofs.YtpogcoolgnjejaaGreatDoor Go.RowKit

/-- the bytes that cells hold -/
def bytC : Nat → List Value → Option (List Int)
  | 0, _ => some []
  | n + 1, .int .u8 x :: l => match bytC n l with
    | some m => some (x :: m)
    | none => none
  | _ + 1, _ => none
theorem bytC_len : ∀ {n : Nat} {l : List Value} {m : List Int}, bytC n l = some m → m.length = n ∧ ∀ (i : Nat) (x : Int), m[i]? = some x → l[i]? = some (.int .u8 x) := by
  intro n
  induction n with
  | zero => intro l m h; cases h; exact ⟨rfl, fun i x hx => by simp at hx⟩
  | succ n ih =>
    intro l m h
    unfold bytC at h
    split at h
    · rename_i e; cases e
    · rename_i n' x l' e1
      cases e1
      split at h
      · rename_i m' hm
        cases h
        obtain ⟨h1, h2⟩ := ih hm
        refine ⟨by simp [h1], fun i y hy => ?_⟩
        cases i with
        | zero => simpa using hy
        | succ i => simpa using h2 i y (by simpa using hy)
      · cases h
    · cases h
def bytR (x : Int) : Bool := decide (0 ≤ x) && decide (x < 256)
def bytA : List Int → Bool
  | [] => true
  | x :: l => bytR x && bytA l
theorem bytA_at : ∀ {l : List Int} {i : Nat} {x : Int}, bytA l = true → l[i]? = some x → 0 ≤ x ∧ x < 256 := by
  intro l
  induction l with
  | nil => intro i x _ h; simp at h
  | cons y l ih =>
    intro i x h hx
    unfold bytA bytR at h
    simp only [Bool.and_eq_true, decide_eq_true_eq] at h
    cases i with
    | zero => cases hx; exact h.1
    | succ i => exact ih h.2 (by simpa using hx)
/-- what has to hold of the bytes, one by one -/
def bytN : List Int → Prop → Prop
  | [], K => K
  | x :: l, K => need (bytR x) (bytN l K)
theorem bytN_elim : ∀ {l : List Int} {K : Prop}, bytN l K → bytA l = true ∧ K := by
  intro l
  induction l with
  | nil => intro K h; exact ⟨rfl, h⟩
  | cons x l ih =>
    intro K h
    obtain ⟨h1, h2⟩ := need_elim h
    obtain ⟨h3, h4⟩ := ih h2
    exact ⟨by simp [bytA, h1, h3], h4⟩
def bytG (args : List Value) (st : ASt) : Option (List Int) := match args with
  | [.slice (some a) n c] => match a.spot with
    | none => match st.h.get a.block with
      | some (.cells cs ex es) => cond (Nat.beq es 1 && (Nat.ble n 100000 && Nat.ble 1 n)) (bytC n (cs.drop a.off)) none
      | _ => none
    | some _ => none
  | _ => none
def bytT (F : List Nat → Nat) : TCon where
  run args st := match bytG args st with
    | some l => cond (bytA l) (.ok (.returned (.int .u32 (.ofNat (F (l.map Int.toNat)))), st)) (.er "no bytes" "")
    | none => .er "told of other bytes" ""
  sym args st K := match bytG args st with
    | some l => bytN l (K (.returned (.int .u32 (.ofNat (F (l.map Int.toNat))))) st)
    | none => False
  ok args st K h := by
    split at h
    · rename_i l hl
      obtain ⟨h1, h2⟩ := bytN_elim h
      exact ⟨_, _, by rw [h1]; rfl, h2⟩
    · exact h.elim
/-- C, and g by what it answers of bytes -/
def Told.byt (C : Told) (g : FuncId) (F : List Nat → Nat) : Told := fun f => cond (Nat.beq f g) (some (bytT F)) (C f)
theorem Told.byt_ok {P : Program} {C : Told} {g : FuncId} {F : List Nat → Nat} (hC : ToldS P C) (h : ∀ (v : Value) (bs : List Nat) (w : World), BytesW w v bs → Calls P g #[v] w fun e w' => e = .returned (.int .u32 (F bs : Nat)) ∧ Below w.heap.size w w') : ToldS P (C.byt g F) := by
  intro f c hc
  unfold Told.byt at hc
  cases hb : Nat.beq f g with
  | false => rw [hb] at hc; exact hC f c hc
  | true =>
    rw [hb] at hc
    have := Nat.eq_of_beq_eq_true hb
    subst this
    cases hc
    intro args st r st' hwf hr
    simp only [bytT] at hr
    split at hr
    · rename_i l hl
      obtain ⟨hA, hr⟩ := cond_ok hr
      cases hr
      refine ⟨LoS.refl _, fun ρ w args' ha hw hf => ?_⟩
      unfold bytG at hl
      split at hl
      · rename_i a n cc
        split at hl
        · rename_i hs
          split at hl
          · rename_i cs ex es ho
            cases hq : Nat.beq es 1 && (Nat.ble n 100000 && Nat.ble 1 n) with
            | false => rw [hq] at hl; cases hl
            | true =>
              rw [hq] at hl
              simp only [cond_true] at hl
              simp only [Bool.and_eq_true] at hq
              have he : es = 1 := Nat.eq_of_beq_eq_true hq.1
              have hn : n ≤ 100000 := Nat.le_of_ble_eq_true hq.2.1
              have hn1 : 1 ≤ n := Nat.le_of_ble_eq_true hq.2.2
              subst he
              obtain ⟨k1, k2⟩ := bytC_len hl
              obtain ⟨y, hy⟩ : ∃ y, args' = #[y] := by
                have := ha.1
                obtain ⟨q⟩ := args'
                match q, this with
                | [y], _ => exact ⟨y, rfl⟩
              subst hy
              have hv := ha.2 0 _ _ rfl rfl
              obtain ⟨blk, off, spot⟩ := a
              simp only at hs ho hl
              subst hs
              cases hv with
              | slice a' o' s n' c1 c' off' hρ hnc hcc hx hroom hoff =>
                obtain ⟨s', e1, e2⟩ := hw.obj blk _ ho
                rw [hρ] at e1
                cases e1
                obtain ⟨_, _, _, C0, t, fr, e3, e4, e5, e6, e7⟩ := e2
                have ho' : off' = s.base + off := by
                  rcases hoff with h1 | h1
                  · exact h1
                  · omega
                refine (h (.slice (some ⟨s.blk, off', none⟩) n c') (l.map Int.toNat) w ⟨some ⟨s.blk, off', none⟩, c', by simp [k1], ?_, ?_, ?_⟩).mono fun e w' ⟨he, hb⟩ => ⟨ρ, ?_, Mv.below hw _ hb⟩
                · simp only [List.length_map, k1]; unfold maxLen; omega
                · intro i hi
                  simp only [List.length_map] at hi
                  have := bytA_at hA (List.getElem?_eq_getElem hi)
                  rw [List.getD_eq_getElem?_getD, List.getElem?_map, List.getElem?_eq_getElem hi]
                  simp; omega
                · intro _
                  refine ⟨s.blk, off', rfl, (List.getElem?_eq_some_iff.1 (by simpa using e3)).1, fun i hi => ?_⟩
                  simp only [List.length_map] at hi
                  have h1 := k2 i _ (List.getElem?_eq_getElem hi)
                  rw [List.getElem?_drop] at h1
                  obtain ⟨y, h2, h3⟩ := e7 _ _ h1
                  cases h3
                  have hr := bytA_at hA (List.getElem?_eq_getElem hi)
                  rw [List.getD_eq_getElem?_getD, List.getElem?_map, List.getElem?_eq_getElem hi]
                  unfold World.cell?
                  simp only [e3]
                  rw [ho', Nat.add_assoc, h2]
                  simp [Int.toNat_of_nonneg hr.1]
                · subst he
                  exact ⟨_, rfl, .int _ _⟩
          · cases hl
        · cases hl
      · cases hl
    · cases hr
end Go.Proofs.YtpogcoolgnjejaaGreatDoor.Ev
/-
  The contract of annunciatorref16.Sum: bit by bit.
-/
namespace Go.Proofs.YtpogcoolgnjejaaGreatDoor
open Go.RowKit

def bitStep (c : Nat) : Nat := if c % 2 = 1 then (c / 2) ^^^ 3988292384 else c / 2
def bitN : Nat → Nat → Nat
  | 0, c => c
  | n + 1, c => bitStep (bitN n c)
theorem bitN_succ (n c : Nat) : bitN (n + 1) c = bitStep (bitN n c) := rfl
def refByte (c x : Nat) : Nat := bitN 8 (c ^^^ x)
def refSum (bs : List Nat) : Nat := 4294967295 ^^^ bs.foldl refByte 4294967295

theorem bitStep_lt (c : Nat) (h : c < 4294967296) : bitStep c < 4294967296 := by
  unfold bitStep
  split
  · exact Nat.xor_lt_two_pow (n := 32) (by omega) (by decide)
  · omega
theorem bitN_lt (n c : Nat) (h : c < 4294967296) : bitN n c < 4294967296 := by
  induction n with
  | zero => exact h
  | succ n ih => exact bitStep_lt _ ih
theorem refByte_lt (c x : Nat) (h : c < 4294967296) (hx : x < 256) : refByte c x < 4294967296 := bitN_lt _ _ (xor_lt _ _ h hx)
theorem refFold_lt (bs : List Nat) (hb : ∀ i, i < bs.length → bs.getD i 0 < 256) (k : Nat) (hk : k ≤ bs.length) : (bs.take k).foldl refByte 4294967295 < 4294967296 := by
  induction k with
  | zero => simp
  | succ k ih =>
    have hlt : k < bs.length := by omega
    have h := hb k hlt
    rw [List.take_succ_eq_append_getElem hlt, List.foldl_append]
    simp only [List.getD, List.getElem?_eq_getElem hlt, Option.getD_some] at h
    exact refByte_lt _ _ (ih (by omega)) h
theorem refFold_succ (bs : List Nat) (k : Nat) (hlt : k < bs.length) : (bs.take (k+1)).foldl refByte 4294967295 = refByte ((bs.take k).foldl refByte 4294967295) (bs.getD k 0) := by
  rw [List.take_succ_eq_append_getElem hlt, List.foldl_append]
  simp [List.getD, List.getElem?_eq_getElem hlt]
theorem bit_odd (c : Nat) (h : c < 4294967296) (ho : c % 2 = 1) : bits .xor .u32 ((c : Int) / 2) 3988292384 = (bitStep c : Nat) := by
  have h1 : ((c : Int) / 2) = ((c / 2 : Nat) : Int) := by simp
  have := u32_xor_nat (c / 2) 3988292384 (by omega) (by decide)
  rw [h1]
  simp only [bitStep, if_pos ho]
  simpa using this
theorem bit_even (c : Nat) (ho : ¬ c % 2 = 1) : (c : Int) / 2 = (bitStep c : Nat) := by
  simp only [bitStep, if_neg ho]
  simp

set_option maxHeartbeats 400000 in
theorem refSum_anyW (v : Value) (bs : List Nat) (w : World) (hv : BytesW w v bs) :
    Calls Tryz.prog 93 #[v] w fun e w' => e = .returned (.int .u32 (refSum bs : Nat)) ∧ w = w' := by
  obtain ⟨a, cap, rfl, hm, hb, hc⟩ := hv
  unfold maxLen at hm
  go_enter Tryz.func93, Tryz.ntmps93
  go_wp2
  go_loop [3, 4] (fun c i => ∃ k : Nat, k ≤ bs.length ∧ i = .int .i64 k ∧ c = .int .u32 ((bs.take k).foldl refByte 4294967295 : Nat)) (fun _ i => bs.length - (intOf i).toNat)
  case atStart => exact ⟨0, Nat.zero_le _, rfl, rfl⟩
  case round =>
    obtain ⟨k, hk, rfl, rfl⟩ := hrel
    by_cases hlt : k < bs.length
    · have hC := refFold_lt bs hb k hk
      have hX := hb k hlt
      obtain ⟨b, off, rfl, hbl, hcell⟩ := hc (by intro h; simp [h] at hlt)
      have hx := hcell k hlt
      have HS := Lib.hid (refFold_succ bs k hlt)
      clear hcell
      revert HS hC hX hx
      generalize (bs.take k).foldl refByte 4294967295 = C
      generalize bs.getD k 0 = x
      intro hC hX hx HS
      clear hb hc
      have q1 := xor_lt C x hC hX
      have e1 := u32_xor_nat C x hC (by omega)
      go_wp2
      go_loop [3, 5] (fun c j => ∃ n : Nat, n ≤ 8 ∧ j = .int .i64 n ∧ c = .int .u32 (bitN n (C ^^^ x) : Nat)) (fun _ j => 8 - (intOf j).toNat)
      case atStart => exact ⟨0, Nat.zero_le _, rfl, rfl⟩
      case round =>
        obtain ⟨n, hn, rfl, rfl⟩ := hrel
        have hD := bitN_lt n _ q1
        have HN := Lib.hid (bitN_succ n (C ^^^ x))
        by_cases hl8 : n < 8
        · revert HN hD
          generalize bitN n (C ^^^ x) = D
          intro hD HN
          by_cases ho : D % 2 = 1
          · have o1 : ((D : Int) % 2 == 1) = true := by rw [beq_iff_eq]; omega
            have o2 := bit_odd D hD ho
            go_wp2
            go_round
            case rel => exact ⟨n + 1, by omega, by go_num, by rw [HN.out]⟩
            case measure => simp [intOf]; omega
          · have o1 : ((D : Int) % 2 == 1) = false := by rw [beq_eq_false_iff_ne]; omega
            have o2 := bit_even D ho
            go_wp2
            go_round
            case rel => exact ⟨n + 1, by omega, by go_num, by rw [HN.out]⟩
            case measure => simp [intOf]; omega
        · obtain rfl : n = 8 := by omega
          go_wp2
          go_round
          case rel => exact ⟨k + 1, by omega, by go_num, by rw [HS.out]; rfl⟩
          case measure => simp [intOf]; omega
    · have e1 := not_walk _ (refFold_lt bs hb k hk)
      have hk2 : k = bs.length := by omega
      have HK := Lib.hid hk2
      clear hb hc hk2
      go_wp2
      go_ret
      exact ⟨ret_int (by simp only [HK.out, List.take_length]; rfl), rfl⟩

theorem refSum_any (v : Value) (bs : List Nat) (w : World) (hv : Bytes w v bs) :
    Calls Tryz.prog 93 #[v] w fun e w' => e = .returned (.int .u32 (refSum bs : Nat)) ∧ w = w' := refSum_anyW v bs w hv.weak

end Go.Proofs.YtpogcoolgnjejaaGreatDoor
/-
  The plain law of CRC-32: by nibbles is bit by bit; the sum is affine; a turn of at most 32 bits in a row is seen; bytes with their sum behind them have one sum. No program is spoken of.
-/
namespace Go.Proofs.YtpogcoolgnjejaaGreatDoor

theorem xor_odd (a b : Nat) : (a ^^^ b) % 2 = 1 ↔ ¬ (a % 2 = 1 ↔ b % 2 = 1) := by
  have h := Nat.testBit_xor a b 0
  simp only [Nat.testBit_zero] at h
  by_cases ha : a % 2 = 1 <;> by_cases hb : b % 2 = 1 <;> simp [ha, hb] at h ⊢ <;> omega
theorem bitStep_xor (a b : Nat) : bitStep (a ^^^ b) = bitStep a ^^^ bitStep b := by
  have h1 := xor_odd a b
  have h2 : (a ^^^ b) / 2 = a / 2 ^^^ b / 2 := by
    apply Nat.eq_of_testBit_eq; intro i
    simp [← Nat.testBit_succ]
  unfold bitStep
  rw [h2]
  generalize a / 2 = x
  generalize b / 2 = y
  by_cases ha : a % 2 = 1 <;> by_cases hb : b % 2 = 1 <;> simp only [ha, hb, h1, iff_self, not_true_eq_false, if_true, if_false, iff_true, iff_false, not_false_eq_true] <;> (apply Nat.eq_of_testBit_eq; intro i; simp only [Nat.testBit_xor]; cases x.testBit i <;> cases y.testBit i <;> cases Nat.testBit 3988292384 i <;> rfl)
theorem bitN_xor (n a b : Nat) : bitN n (a ^^^ b) = bitN n a ^^^ bitN n b := by
  induction n with
  | zero => rfl
  | succ n ih => rw [bitN_succ, bitN_succ, bitN_succ, ih, bitStep_xor]
theorem bitN_add (m n c : Nat) : bitN (m + n) c = bitN m (bitN n c) := by
  induction m with
  | zero => simp [bitN]
  | succ m ih => rw [Nat.succ_add, bitN_succ, ih, bitN_succ]
theorem bitStep_two (h : Nat) : bitStep (2 * h) = h := by
  unfold bitStep
  rw [if_neg (by omega)]; omega
theorem bitN_pow (n h : Nat) : bitN n (2 ^ n * h) = h := by
  induction n generalizing h with
  | zero => simp [bitN]
  | succ n ih =>
    rw [bitN_succ, show 2 ^ (n + 1) * h = 2 ^ n * (2 * h) by rw [Nat.pow_succ, Nat.mul_assoc], ih, bitStep_two]
theorem split_xor (n a : Nat) : a = 2 ^ n * (a / 2 ^ n) ^^^ (a % 2 ^ n) := by
  apply Nat.eq_of_testBit_eq; intro i
  rw [Nat.testBit_xor, Nat.testBit_two_pow_mul, Nat.testBit_mod_two_pow, Nat.testBit_div_two_pow]
  by_cases h : n ≤ i
  · have h1 : ¬ i < n := by omega
    simp [h, h1, Nat.sub_add_cancel h]
  · have h1 : i < n := by omega
    simp [h, h1]
theorem nib_eq (c : Nat) : nib c = bitN 4 c := by
  have key : ∀ i : Fin 16, tab i.val = bitN 4 i.val := by decide
  have h := key ⟨c % 16, by omega⟩
  conv => rhs; rw [split_xor 4 c, bitN_xor, bitN_pow]
  unfold nib
  rw [h]
theorem byteStep_eq (c x : Nat) : byteStep c x = refByte c x := by
  unfold byteStep refByte
  rw [nib_eq, nib_eq, ← bitN_add]
theorem crcSum_eq (bs : List Nat) : crcSum bs = refSum bs := by
  unfold crcSum crcRaw refSum
  rw [show byteStep = refByte from funext fun c => funext fun x => byteStep_eq c x]

/-! the fold from a state -/
theorem fold_xor (l m : List Nat) (a b : Nat) (hl : l.length = m.length) : (List.zipWith (· ^^^ ·) l m).foldl refByte (a ^^^ b) = l.foldl refByte a ^^^ m.foldl refByte b := by
  induction l generalizing m a b with
  | nil => cases m with
    | nil => rfl
    | cons _ _ => simp at hl
  | cons x l ih => cases m with
    | nil => simp at hl
    | cons y m =>
      simp only [List.zipWith_cons_cons, List.foldl_cons]
      rw [show refByte (a ^^^ b) (x ^^^ y) = refByte a x ^^^ refByte b y by
        unfold refByte
        rw [← bitN_xor]
        congr 1
        rw [Nat.xor_assoc, ← Nat.xor_assoc b, Nat.xor_comm b x, Nat.xor_assoc x, Nat.xor_assoc]]
      exact ih m _ _ (by simpa using hl)

/-- a number as n bytes, the lowest first -/
def lows : Nat → Nat → List Nat
  | 0, _ => []
  | n + 1, v => (v % 256) :: lows n (v / 256)
theorem fold_lows (n c v : Nat) (hv : v < 256 ^ n) : (lows n v).foldl refByte c = bitN (8 * n) (c ^^^ v) := by
  induction n generalizing c v with
  | zero =>
    have : v = 0 := by simp at hv; omega
    subst this; simp [lows, bitN]
  | succ n ih =>
    simp only [lows, List.foldl_cons]
    rw [ih _ _ (by rw [Nat.pow_succ] at hv; omega)]
    rw [show 8 * (n + 1) = 8 * n + 8 by omega, bitN_add]
    congr 1
    unfold refByte
    conv => rhs; rw [split_xor 8 v]
    rw [Nat.xor_comm (2 ^ 8 * _), ← Nat.xor_assoc, bitN_xor (b := 2 ^ 8 * _), bitN_pow]
theorem bitStep_ne (c : Nat) (h : c < 4294967296) (h0 : c ≠ 0) : bitStep c ≠ 0 := by
  unfold bitStep
  split
  · intro e
    have : c / 2 = 3988292384 := by
      have h2 : c / 2 ^^^ 3988292384 ^^^ 3988292384 = 0 ^^^ 3988292384 := by rw [e]
      rw [Nat.xor_assoc] at h2; simpa using h2
    omega
  · omega
theorem bitN_ne (n c : Nat) (h : c < 4294967296) (h0 : c ≠ 0) : bitN n c ≠ 0 := by
  induction n with
  | zero => exact h0
  | succ n ih => exact bitStep_ne _ (bitN_lt n c h) ih
theorem refByte_zero (c : Nat) : refByte c 0 = bitN 8 c := by simp [refByte]
theorem fold_zeros (n c : Nat) : (List.replicate n 0).foldl refByte c = bitN (8 * n) c := by
  induction n generalizing c with
  | zero => rfl
  | succ n ih =>
    rw [List.replicate_succ, List.foldl_cons, ih, refByte_zero, ← bitN_add]; rfl
theorem bitN_zero (n : Nat) : bitN n 0 = 0 := by
  induction n with
  | zero => rfl
  | succ n ih => rw [bitN_succ, ih]; rfl

/-- a turn of at most 32 bits in a row, anywhere: the fold is another one -/
theorem turned (bs : List Nat) (k by_ sh : Nat) (hk : k + 5 ≤ bs.length) (hs : sh < 8) (hb : by_ < 4294967296) (h0 : by_ ≠ 0) (c : Nat) :
    (List.zipWith (· ^^^ ·) bs (List.replicate k 0 ++ lows 5 (2 ^ sh * by_) ++ List.replicate (bs.length - k - 5) 0)).foldl refByte c ≠ bs.foldl refByte c := by
  have hlen : bs.length = (List.replicate k 0 ++ lows 5 (2 ^ sh * by_) ++ List.replicate (bs.length - k - 5) 0).length := by
    simp [lows]; omega
  have h := fold_xor bs _ c 0 hlen
  rw [Nat.xor_zero] at h
  rw [h]
  have hv : 2 ^ sh * by_ < 256 ^ 5 := by
    have : 2 ^ sh ≤ 2 ^ 7 := Nat.pow_le_pow_right (by omega) (by omega)
    calc 2 ^ sh * by_ ≤ 2 ^ 7 * by_ := Nat.mul_le_mul_right _ this
      _ < 256 ^ 5 := by omega
  rw [List.foldl_append, List.foldl_append, fold_zeros k, bitN_zero, fold_lows _ _ _ hv, fold_zeros, Nat.zero_xor]
  rw [show 8 * 5 = (40 - sh) + sh by omega, bitN_add, bitN_pow, ← bitN_add]
  intro e
  have e2 : bs.foldl refByte c ^^^ (bs.foldl refByte c ^^^ bitN (8 * (bs.length - k - 5) + (40 - sh)) by_) = bs.foldl refByte c ^^^ bs.foldl refByte c := by rw [e]
  rw [← Nat.xor_assoc, Nat.xor_self, Nat.zero_xor] at e2
  exact bitN_ne _ _ hb h0 e2
theorem rest (bs : List Nat) (hb : ∀ i, i < bs.length → bs.getD i 0 < 256) : refSum (bs ++ lows 4 (refSum bs)) = 558161692 := by
  have hlt : refSum bs < 256 ^ 4 := by
    rw [← crcSum_eq]; exact crcSum_lt bs hb
  have h := fold_lows 4 (bs.foldl refByte 4294967295) (refSum bs) hlt
  conv at h => rhs; unfold refSum
  generalize lows 4 (refSum bs) = t at h ⊢
  unfold refSum
  rw [List.foldl_append]
  have e : ∀ x : Nat, x ^^^ (4294967295 ^^^ x) = 4294967295 := fun x => by rw [Nat.xor_comm 4294967295 x, ← Nat.xor_assoc, Nat.xor_self, Nat.zero_xor]
  rw [h, e]
  decide
theorem join (a b c : List Nat) (h1 : a.length = b.length) (h2 : a.length = c.length) :
    refSum (List.zipWith (· ^^^ ·) (List.zipWith (· ^^^ ·) a b) c) = refSum a ^^^ refSum b ^^^ refSum c := by
  unfold refSum
  have e1 : (4294967295 : Nat) = 4294967295 ^^^ 4294967295 ^^^ 4294967295 := by decide
  conv => lhs; rhs; rw [e1]
  rw [fold_xor _ _ _ _ (by simp; omega), fold_xor _ _ _ _ h1]
  generalize a.foldl refByte 4294967295 = x
  generalize b.foldl refByte 4294967295 = y
  generalize c.foldl refByte 4294967295 = z
  generalize (4294967295 : Nat) = q
  apply Nat.eq_of_testBit_eq; intro i
  simp only [Nat.testBit_xor]
  cases q.testBit i <;> cases x.testBit i <;> cases y.testBit i <;> cases z.testBit i <;> rfl

end Go.Proofs.YtpogcoolgnjejaaGreatDoor
