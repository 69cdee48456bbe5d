/- Chapter 08: zeros are trimmed. -/
/- Chapter 08: octets are read as attributes. -/
/- Functions that may panic, that defer, that recover. Own work. No program is named here. -/
/- Drawn regions as trees, of which a call may end in a panic (X6 with panics). Own work. No program is named here. -/
/- Calls in functions that may panic. Own work. No program is named here. -/
/- Chapter 08: what ends a reading; one attribute at a place of octets. -/
import Derived.Test.YtmlmfmdmomegpaaGreatDoorKN12
import Derived.Test.YtmlmfmdmomegpaaGreatDoorKN10
import Derived.Test.YtmlmfmdmomegpaaGreatDoorKN02
import Derived.Test.YtmlmfmdmomegpaaGreatDoorKN05
import Derived.Test.YtmlmfmdmomegpaaGreatDoorKN09
namespace Go.Proofs.YtmlmfmdmomegpaaGreatDoor
set_option linter.unusedSimpArgs false
set_option linter.unusedVariables false
set_option maxRecDepth 100000
open Go.RowKit V
set_option maxHeartbeats 4000000
def trN (s : ByteArray) : Nat → Nat
  | 0 => 0
  | k + 1 => if byt s k = 0 then trN s k else k + 1
theorem trN_le (s : ByteArray) : ∀ k, trN s k ≤ k
  | 0 => Nat.le_refl _
  | k + 1 => by
    unfold trN
    split
    · exact Nat.le_trans (trN_le s k) (Nat.le_succ k)
    · exact Nat.le_refl _
def tlN (s : ByteArray) : Nat → Nat → Nat
  | 0, j => j
  | f + 1, j => if byt s j = 0 then tlN s f (j + 1) else j
theorem byt_pre (s : ByteArray) (j k i : Nat) (h : k ≤ s.size) (hi : j + i < k) : byt (s.extract j k) i = byt s (j + i) := by
  unfold byt
  have e : (s.extract j k).data.toList = (s.data.toList.take k).drop j := by
    have : (s.extract j k).data = s.data.extract j k := by simp
    rw [this, Array.toList_extract, List.extract_eq_take_drop, List.drop_take]
  rw [e, List.getD_eq_getElem?_getD, List.getElem?_drop, List.getElem?_take, if_pos (by omega), List.getD_eq_getElem?_getD]
theorem ext_ext (s : ByteArray) (j k a b : Nat) : (s.extract j k).extract a b = s.extract (j + a) (min (j + b) k) := by
  apply ba_eq
  rw [ext_toList, ext_toList, ext_toList, List.take_drop, List.drop_drop, List.take_take]
theorem trN_z {s : ByteArray} {k : Nat} (h : byt s k = 0) : trN s (k + 1) = trN s k := by
  conv => lhs; unfold trN
  rw [if_pos h]
theorem trN_nz {s : ByteArray} {k : Nat} (h : byt s k ≠ 0) : trN s (k + 1) = k + 1 := by
  unfold trN
  rw [if_neg h]
theorem trR_p (s : ByteArray) (hs : s.size ≤ 100000) : PureF Tryz.prog 146 #[.string s, .int .u8 0] (.string (s.extract 0 (trN s s.size))) := by
  first | refine v_pure TTok FFok Tryz.func146 rfl rfl fun w0 => ?_ | refine v_pure (args := []) TTok FFok Tryz.func146 rfl rfl fun w0 => ?_
  conv => whnf
  refine VSeq.mk fun Kq hKq => ?_
  conv => whnf
  refine hKq _ _ _ (.refl _) ?_
  clear hKq Kq
  conv => whnf
  refine VSeq.mk fun Kq hKq => ?_
  conv => whnf
  have hp := Hp.nil w0
  refine ⟨fun mm e w' => ∃ (k : Nat), mm = k ∧ k ≤ s.size ∧ trN s k = trN s s.size ∧ e = [(0, .v (.string (s.extract 0 k))), (1, .v (.int .u8 0))] ∧ HpM [] w0 w' [],
    ⟨s.size, _, ⟨s.size, rfl, Nat.le_refl _, rfl, by rw [show s.extract 0 s.size = s by simp], hp⟩, sub_cons rfl (sub_cons rfl sub_nil)⟩, ?_⟩
  clear hp
  repeat clear hp
  rintro mm _ w ⟨k, rfl, hk, htr, rfl, hp⟩
  have hsz : (s.extract 0 mm).size = mm := by rw [ByteArray.size_extract]; omega
  conv => whnf
  refine VSeq.mk fun Kq hKq => ?_
  conv => whnf
  refine VSeq.mk fun Kq hKq => ?_
  conv => whnf
  refine VSeq.mk fun Kq hKq => ?_
  conv => whnf
  refine hKq _ _ _ (.refl _) ?_
  clear hKq Kq
  conv => whnf
  refine ⟨fun h0 => ?_, fun h0 => ?_⟩
  · have h0 := of_decide_eq_true h0
    conv => whnf
    refine Or.inl (And.intro (by omega) ?_)
    conv => whnf
    have hpos : 0 < mm := by omega
    refine ⟨mm - 1, ⟨by first | rfl | omega, by omega⟩, ?_⟩
    conv => whnf
    refine hKq _ _ _ (.refl _) ?_
    clear hKq Kq
    conv => whnf
    rw [byt_pre s 0 mm (mm - 1) hk (by omega), Nat.zero_add]
    refine ⟨fun hz => ?_, fun hz => ?_⟩
    · have hz := of_decide_eq_true hz
      conv => whnf
      refine hKq _ _ _ (.refl _) ?_
      clear hKq Kq
      conv => whnf
      refine Or.inl (And.intro (by omega) ?_)
      conv => whnf
      obtain ⟨k, rfl⟩ : ∃ k, mm = k + 1 := ⟨mm - 1, by omega⟩
      simp only [Nat.add_sub_cancel] at hz
      skip
      refine ⟨k, ⟨by first | rfl | omega, by omega⟩, ?_⟩
      conv => whnf
      skip
      rw [ext_ext, Nat.zero_add, Nat.zero_add, Nat.min_eq_left (by omega)]
      exact ⟨k, _, by omega, ⟨k, rfl, by omega, (trN_z (by omega)).symm.trans htr, rfl, hp⟩, sub_cons rfl (sub_cons rfl sub_nil)⟩
    · have hz := of_decide_eq_false hz
      conv => whnf
      clear hKq Kq
      refine hKq _ _ _ (.refl _) ?_
      clear hKq Kq
      conv => whnf
      refine VSeq.mk fun Kq hKq => ?_
      conv => whnf
      refine hKq _ _ _ (.refl _) ?_
      clear hKq Kq
      conv => whnf
      skip
      obtain ⟨k, rfl⟩ : ∃ k, mm = k + 1 := ⟨mm - 1, by omega⟩
      simp only [Nat.add_sub_cancel] at hz
      rw [← htr, trN_nz (by omega)]
      exact ⟨rfl, hp.ext⟩
  · have h0 := of_decide_eq_false h0
    conv => whnf
    refine hKq _ _ _ (.refl _) ?_
    clear hKq Kq
    conv => whnf
    clear hKq Kq
    refine hKq _ _ _ (.refl _) ?_
    clear hKq Kq
    conv => whnf
    refine VSeq.mk fun Kq hKq => ?_
    conv => whnf
    refine hKq _ _ _ (.refl _) ?_
    clear hKq Kq
    conv => whnf
    skip
    obtain rfl : mm = 0 := by omega
    rw [← htr]
    exact ⟨rfl, hp.ext⟩
theorem tlN_z {s : ByteArray} {f j : Nat} (h : byt s j = 0) : tlN s (f + 1) j = tlN s f (j + 1) := by
  conv => lhs; unfold tlN
  rw [if_pos h]
theorem tlN_nz {s : ByteArray} {f j : Nat} (h : byt s j ≠ 0) : tlN s (f + 1) j = j := by
  unfold tlN
  rw [if_neg h]
theorem trL_p (s : ByteArray) (hs : s.size ≤ 100000) : PureF Tryz.prog 145 #[.string s, .int .u8 0] (.string (s.extract (tlN s s.size 0) s.size)) := by
  first | refine v_pure TTok FFok Tryz.func145 rfl rfl fun w0 => ?_ | refine v_pure (args := []) TTok FFok Tryz.func145 rfl rfl fun w0 => ?_
  conv => whnf
  refine VSeq.mk fun Kq hKq => ?_
  conv => whnf
  refine hKq _ _ _ (.refl _) ?_
  clear hKq Kq
  conv => whnf
  refine VSeq.mk fun Kq hKq => ?_
  conv => whnf
  have hp := Hp.nil w0
  refine ⟨fun mm e w' => ∃ (j : Nat), mm + j = s.size ∧ tlN s mm j = tlN s s.size 0 ∧ e = [(0, .v (.string (s.extract j s.size))), (1, .v (.int .u8 0))] ∧ HpM [] w0 w' [],
    ⟨s.size, _, ⟨0, by omega, rfl, by rw [show s.extract 0 s.size = s by simp], hp⟩, sub_cons rfl (sub_cons rfl sub_nil)⟩, ?_⟩
  clear hp
  repeat clear hp
  rintro mm _ w ⟨j, hj, htr, rfl, hp⟩
  have hsz : (s.extract j s.size).size = mm := by rw [ByteArray.size_extract]; omega
  conv => whnf
  refine VSeq.mk fun Kq hKq => ?_
  conv => whnf
  refine VSeq.mk fun Kq hKq => ?_
  conv => whnf
  refine VSeq.mk fun Kq hKq => ?_
  conv => whnf
  refine hKq _ _ _ (.refl _) ?_
  clear hKq Kq
  conv => whnf
  refine ⟨fun h0 => ?_, fun h0 => ?_⟩
  · have h0 := of_decide_eq_true h0
    conv => whnf
    have hpos : 0 < mm := by omega
    obtain ⟨f, rfl⟩ : ∃ f, mm = f + 1 := ⟨mm - 1, by omega⟩
    refine ⟨0, ⟨by first | rfl | omega, by omega⟩, ?_⟩
    conv => whnf
    refine hKq _ _ _ (.refl _) ?_
    clear hKq Kq
    conv => whnf
    rw [byt_pre s j s.size 0 (Nat.le_refl _) (by omega), Nat.add_zero]
    refine ⟨fun hz => ?_, fun hz => ?_⟩
    · have hz := of_decide_eq_true hz
      conv => whnf
      refine hKq _ _ _ (.refl _) ?_
      clear hKq Kq
      conv => whnf
      skip
      refine ⟨1, ⟨by first | rfl | omega, by omega⟩, ?_⟩
      conv => whnf
      skip
      rw [ext_ext, hsz, show min (j + (f + 1)) s.size = s.size by omega]
      exact ⟨f, _, by omega, ⟨j + 1, by omega, (tlN_z (by omega)).symm.trans htr, rfl, hp⟩, sub_cons rfl (sub_cons rfl sub_nil)⟩
    · have hz := of_decide_eq_false hz
      conv => whnf
      clear hKq Kq
      refine hKq _ _ _ (.refl _) ?_
      clear hKq Kq
      conv => whnf
      refine VSeq.mk fun Kq hKq => ?_
      conv => whnf
      refine hKq _ _ _ (.refl _) ?_
      clear hKq Kq
      conv => whnf
      skip
      rw [← htr, tlN_nz (by omega)]
      exact ⟨rfl, hp.ext⟩
  · have h0 := of_decide_eq_false h0
    conv => whnf
    refine hKq _ _ _ (.refl _) ?_
    clear hKq Kq
    conv => whnf
    clear hKq Kq
    refine hKq _ _ _ (.refl _) ?_
    clear hKq Kq
    conv => whnf
    refine VSeq.mk fun Kq hKq => ?_
    conv => whnf
    refine hKq _ _ _ (.refl _) ?_
    clear hKq Kq
    conv => whnf
    skip
    obtain rfl : mm = 0 := by omega
    rw [← htr]
    exact ⟨rfl, hp.ext⟩
def trimB (s : ByteArray) : ByteArray := (s.extract 0 (trN s s.size)).extract (tlN (s.extract 0 (trN s s.size)) (s.extract 0 (trN s s.size)).size 0) (s.extract 0 (trN s s.size)).size
theorem Trim_p (s : ByteArray) (hs : s.size ≤ 100000) : PureF Tryz.prog 122 #[.string s, .string ⟨#[0]⟩] (.string (trimB s)) := by
  have hr : (s.extract 0 (trN s s.size)).size ≤ 100000 := by rw [ByteArray.size_extract]; have := trN_le s s.size; omega
  first | refine v_pure TTok FFok Tryz.func122 rfl rfl fun w0 => ?_ | refine v_pure (args := []) TTok FFok Tryz.func122 rfl rfl fun w0 => ?_
  conv => whnf
  refine VSeq.mk fun Kq hKq => ?_
  conv => whnf
  refine hKq _ _ _ (.refl _) ?_
  clear hKq Kq
  conv => whnf
  refine VSeq.mk fun Kq hKq => ?_
  conv => whnf
  refine VSeq.mk fun Kq hKq => ?_
  conv => whnf
  refine VSeq.mk fun Kq hKq => ?_
  conv => whnf
  refine hKq _ _ _ (.refl _) ?_
  clear hKq Kq
  conv => whnf
  have hp := Hp.nil w0
  refine ⟨fun he => ?_, fun he => ?_⟩
  · have he := of_decide_eq_true he
    conv => whnf
    refine hKq _ _ _ (.refl _) ?_
    clear hKq Kq
    conv => whnf
    refine VSeq.mk fun Kq hKq => ?_
    conv => whnf
    refine hKq _ _ _ (.refl _) ?_
    clear hKq Kq
    conv => whnf
    subst he
    skip
    exact ⟨rfl, hp.ext⟩
  · have he := of_decide_eq_false he
    conv => whnf
    refine hKq _ _ _ (.refl _) ?_
    clear hKq Kq
    conv => whnf
    refine And.intro (fun h => absurd (of_decide_eq_true h) ((fun e => by cases e))) (fun _ => ?_)
    conv => whnf
    refine hKq _ _ _ (.refl _) ?_
    clear hKq Kq
    conv => whnf
    refine VSeq.mk fun Kq hKq => ?_
    conv => whnf
    refine VSeq.mk fun Kq hKq => ?_
    conv => whnf
    refine VSeq.mk fun Kq hKq => ?_
    conv => whnf
    refine hKq _ _ _ (.refl _) ?_
    clear hKq Kq
    conv => whnf
    (refine And.intro (fun _ => ?_) (fun h => absurd (by first | rfl | assumption | omega | decide) (of_decide_eq_false h)); conv => whnf)
    (refine ⟨0, ⟨rfl, by decide⟩, ?_⟩; conv => whnf)
    (refine hKq _ _ _ (.refl _) ?_; clear hKq Kq; conv => whnf)
    (refine And.intro (fun _ => ?_) (fun h => absurd (by first | rfl | assumption | omega | decide) (of_decide_eq_false h)); conv => whnf)
    (refine VSeq.mk fun Kq hKq => ?_; conv => whnf)
    refine v_mixA TTok FFok mixed [(0, false), (1, false), (2, false), (3, false), (4, false), (5, false), (6, false), (7, false)] (by kernel_rfl) ?_
    conv => whnf
    (refine ⟨0, ⟨rfl, by decide⟩, ?_⟩; conv => whnf)
    (refine V.QCallW.out ?_; (conv => arg 3; dsimp only [EV.val, List.toList_toArray, List.nil_append, List.append_nil, List.cons_append]); (with_reducible refine V.PureF.quietW (trR_p _ (by first | assumption | omega)) ?_); conv => whnf)
    (refine ⟨0, ⟨rfl, by decide⟩, ?_⟩; conv => whnf)
    (refine V.QCallW.out ?_; (conv => arg 3; dsimp only [EV.val, List.toList_toArray, List.nil_append, List.append_nil, List.cons_append]); (with_reducible refine V.PureF.quietW (trL_p _ (by first | assumption | omega)) ?_); conv => whnf)
    (intro w hx; try (have hp := hp.call hx); conv => whnf)
    (refine hKq _ _ _ (.refl _) ?_; clear hKq Kq; conv => whnf)
    exact ⟨rfl, hp.ext⟩
theorem trN_0 {s : ByteArray} : ∀ {k : Nat}, (∀ i, i < k → byt s i = 0) → trN s k = 0
  | 0, _ => rfl
  | k + 1, h => by rw [trN_z (h k (Nat.lt_succ_self k))]; exact trN_0 fun i hi => h i (Nat.lt_succ_of_lt hi)
theorem trN_pos {s : ByteArray} : ∀ {k : Nat}, trN s k ≠ 0 → byt s (trN s k - 1) ≠ 0 ∧ trN s k ≤ k
  | 0, h => absurd rfl h
  | k + 1, h => by
    by_cases hb : byt s k = 0
    · rw [trN_z hb] at h ⊢
      have := trN_pos h
      exact ⟨this.1, by omega⟩
    · rw [trN_nz hb]; exact ⟨hb, Nat.le_refl _⟩
theorem trN_zero {s : ByteArray} : ∀ {k : Nat}, trN s k = 0 → ∀ i, i < k → byt s i = 0
  | 0, _, i, hi => by omega
  | k + 1, h, i, hi => by
    by_cases hb : byt s k = 0
    · rw [trN_z hb] at h
      by_cases e : i = k
      · subst e; exact hb
      · exact trN_zero h i (by omega)
    · rw [trN_nz hb] at h; cases h
theorem tlN_le {s : ByteArray} {m : Nat} (hm : byt s m ≠ 0) : ∀ f j, j ≤ m → tlN s f j ≤ m
  | 0, j, h => h
  | f + 1, j, h => by
    by_cases hb : byt s j = 0
    · rw [tlN_z hb]
      have : j ≠ m := fun e => by subst e; exact hm hb
      exact tlN_le hm f (j + 1) (by omega)
    · rw [tlN_nz hb]; exact h
theorem trimB_iff (s : ByteArray) : trimB s = ⟨#[]⟩ ↔ ∀ i, i < s.size → byt s i = 0 := by
  constructor
  · intro h
    by_cases hz : trN s s.size = 0
    · exact trN_zero hz
    · exfalso
      obtain ⟨h1, h2⟩ := trN_pos hz
      have h3 : (trimB s).size = 0 := by rw [h]; rfl
      unfold trimB at h3
      have hsz : (s.extract 0 (trN s s.size)).size = trN s s.size := by rw [ByteArray.size_extract]; omega
      have hb : byt (s.extract 0 (trN s s.size)) (trN s s.size - 1) ≠ 0 := by
        rw [byt_pre s 0 (trN s s.size) (trN s s.size - 1) h2 (by omega), Nat.zero_add]; exact h1
      have := tlN_le hb (s.extract 0 (trN s s.size)).size 0 (by omega)
      rw [ByteArray.size_extract] at h3
      omega
  · intro h
    have hz := trN_0 h
    unfold trimB
    rw [hz]
    apply ba_eq
    rw [ext_toList, ext_toList]
    simp
set_option maxHeartbeats 4000000
def u2 (a b : UInt8) : Nat := a.toNat * 256 + b.toNat
/-- one attribute at the head of octets, and what is behind it -/
def pstep : List UInt8 → Option (At2 × List UInt8)
  | a :: b :: c :: d :: r =>
    if u2 c d + padN (u2 c d) ≤ r.length ∧ (r.drop (u2 c d)).take (padN (u2 c d)) = List.replicate (padN (u2 c d)) 0 then some (((u2 a b : Nat), ⟨(r.take (u2 c d)).toArray⟩), r.drop (u2 c d + padN (u2 c d))) else none
  | _ => none
theorem pstep_lt {l r : List UInt8} {a : At2} (h : pstep l = some (a, r)) : r.length + 4 ≤ l.length := by
  unfold pstep at h
  split at h
  · split at h
    · rename_i a b c d r' hc
      simp only [Option.some.injEq, Prod.mk.injEq] at h
      rw [← h.2, List.length_drop]
      simp only [List.length_cons]
      omega
    · cases h
  · cases h
def parseF : Nat → List UInt8 → List At2 × Bool
  | 0, l => ([], l.isEmpty)
  | _ + 1, [] => ([], true)
  | f + 1, l => match pstep l with
    | none => ([], false)
    | some (a, r) => (a :: (parseF f r).1, (parseF f r).2)
theorem parseF_fuel : ∀ (f g : Nat) (l : List UInt8), l.length ≤ f → l.length ≤ g → parseF f l = parseF g l
  | 0, 0, l, _, _ => rfl
  | 0, g + 1, l, h, _ => by
    have : l = [] := List.eq_nil_of_length_eq_zero (by omega)
    subst this; rfl
  | f + 1, 0, l, _, h => by
    have : l = [] := List.eq_nil_of_length_eq_zero (by omega)
    subst this; rfl
  | f + 1, g + 1, [], _, _ => rfl
  | f + 1, g + 1, x :: l, hf, hg => by
    unfold parseF
    cases hp : pstep (x :: l) with
    | none => rfl
    | some y =>
      obtain ⟨a, r⟩ := y
      have := pstep_lt hp
      dsimp only
      rw [parseF_fuel f g r (by simp only [List.length_cons] at *; omega) (by simp only [List.length_cons] at *; omega)]
def parse (l : List UInt8) : List At2 × Bool := parseF l.length l
theorem parse_nil : parse [] = ([], true) := rfl
theorem parse_none {l : List UInt8} (h : l ≠ []) (hp : pstep l = none) : parse l = ([], false) := by
  cases l with
  | nil => exact absurd rfl h
  | cons x l => unfold parse; rw [List.length_cons]; unfold parseF; rw [hp]
theorem parse_some {l r : List UInt8} {a : At2} (hp : pstep l = some (a, r)) : parse l = (a :: (parse r).1, (parse r).2) := by
  have hlt := pstep_lt hp
  cases l with
  | nil => simp [pstep] at hp
  | cons x l =>
    unfold parse
    rw [List.length_cons]
    conv => lhs; unfold parseF
    rw [hp]
    dsimp only
    rw [parseF_fuel l.length r.length r (by simp only [List.length_cons] at hlt; omega) (Nat.le_refl _)]
theorem beL2 (v : Nat) : beL 2 v = [UInt8.ofNat (v / 256), UInt8.ofNat v] := by
  unfold beL
  simp [List.range, List.range.loop]
theorem u2_of (v : Nat) (h : v < 65536) : u2 (UInt8.ofNat (v / 256)) (UInt8.ofNat v) = v := by
  unfold u2
  rw [UInt8.toNat_ofNat', UInt8.toNat_ofNat']
  omega
/-- an attribute's numbers fit -/
def fitA (a : At2) : Prop := 0 ≤ a.1 ∧ a.1 ≤ 65535 ∧ a.2.size ≤ 65535
theorem fitA_of {a : At2} (h : attrB a = true) : fitA a := by
  have := attrB_t h
  exact ⟨this.1, this.2.1, by omega⟩
theorem padB_list (s : ByteArray) : (padB s).data.toList = s.data.toList ++ List.replicate (padN s.size) 0 := by unfold padB; simp
theorem bA_len (s : ByteArray) : s.data.toList.length = s.size := by cases s; rfl
theorem pstep_attr (a : At2) (h : fitA a) (r : List UInt8) : pstep (attrL a ++ r) = some (a, r) := by
  obtain ⟨k, s⟩ := a
  obtain ⟨h0, h1, h2⟩ := h
  dsimp only at h0 h1 h2
  unfold attrL
  dsimp only
  rw [beL2, beL2, padB_list]
  simp only [List.cons_append, List.nil_append, List.append_assoc]
  unfold pstep
  dsimp only
  rw [u2_of s.size (by omega), u2_of k.toNat (by omega)]
  have hl : s.data.toList.length = s.size := bA_len s
  rw [if_pos ?_]
  · simp only [Option.some.injEq, Prod.mk.injEq]
    refine ⟨⟨by omega, ?_⟩, ?_⟩
    · rw [List.take_left' hl]
    · rw [← List.drop_drop, List.drop_left' hl, List.drop_left' List.length_replicate]
  · refine ⟨?_, ?_⟩
    · simp only [List.length_append, List.length_replicate]; omega
    · rw [List.drop_left' hl, List.take_left' List.length_replicate]
theorem parse_attrs : ∀ (al : List At2), (∀ a ∈ al, fitA a) → parse (attrsL al) = (al, true)
  | [], _ => rfl
  | a :: al, h => by
    show parse (attrL a ++ attrsL al) = _
    rw [parse_some (pstep_attr a (h a List.mem_cons_self) _), parse_attrs al fun x hx => h x (List.mem_cons_of_mem _ hx)]
/-! ### the head -/
def clsN (t : Nat) : Nat := ((t / 16) &&& 1) ||| ((t / 128) &&& 2)
def mthN (t : Nat) : Nat := ((t &&& 15) ||| ((t / 2) &&& 112)) ||| ((t / 4) &&& 3968)
theorem kind_all : (List.range 16384).all (fun x => Nat.beq (clsN (kindN (x / 4096) (x % 4096))) (x / 4096) && Nat.beq (mthN (kindN (x / 4096) (x % 4096))) (x % 4096)) = true := by kernel_rfl
theorem kind_inv {c m : Nat} (hc : c < 4) (hm : m < 4096) : clsN (kindN c m) = c ∧ mthN (kindN c m) = m := by
  have := List.all_eq_true.1 kind_all (c * 4096 + m) (List.mem_range.2 (by omega))
  simp only [Bool.and_eq_true] at this
  rw [show (c * 4096 + m) / 4096 = c by omega, show (c * 4096 + m) % 4096 = m by omega] at this
  exact ⟨Nat.eq_of_beq_eq_true this.1, Nat.eq_of_beq_eq_true this.2⟩
open Go.RowKit
namespace V
section
variable {P : Program} {T : Tab} {Fs : List Nat} (hT : tabOk P T = true) (hF : ∀ f, memB f Fs = true → Enters P f)
include hT hF
omit hT hF in
theorem at_entry {args : List Value} {nt : Nat} (hn : args.length ≤ nt) : At nt (entry 0 args) { tmps := args.toArray ++ Array.replicate (nt - args.toArray.size) undef, defers := [] } := by
  refine ⟨by rw [marks_entry], by simp; omega, ?_⟩
  have key : ∀ (vs pre : List Value) t x, look (entry pre.length vs) t = some x → ((pre ++ vs).toArray ++ Array.replicate (nt - args.length) undef).getD t undef = x.val := by
    intro vs
    induction vs with
    | nil => intro pre t x h; simp [entry, look] at h
    | cons v vs ih =>
      intro pre t x h
      simp only [entry, look] at h
      by_cases e : pre.length = t
      · subst e; simp at h; subst h
        simp [Array.getD_eq_getD_getElem?, Array.getElem?_append]
      · rw [beqF e] at h
        have := ih (pre ++ [v]) t x (by simpa using h)
        simpa using this
  intro t x h
  have := key args [] t x h
  simpa using this
omit hT hF in
theorem res_run {fn : Func} {l : Env} {a : Act} {w : World} {R : Value → Prop} (ha : At fn.ntmps l a) (h : vres P fn.results.toList l w (fun vs => R (one vs))) : ∃ v, (results fn a.tmps).run P w = .ok v w ∧ R v := by
  obtain ⟨vs, hk, hr⟩ := vres_sound ha h
  refine ⟨one vs, ?_, hk⟩
  have e : results fn a.tmps = (fn.results.mapM (resOf a) >>= fun vs => Pure.pure (if h : vs.size = 1 then vs[0] else .tuple vs)) := by
    have hg : ∀ (f g : ResultVar → Sem Value), (∀ x, f x = g x) → (fn.results.mapM f >>= fun vs => (Pure.pure (if h : vs.size = 1 then vs[0] else Value.tuple vs) : Sem Value)) = (fn.results.mapM g >>= fun vs => Pure.pure (if h : vs.size = 1 then vs[0] else Value.tuple vs)) := fun f g h => by rw [funext h]
    exact hg _ _ (fun x => by cases x <;> rfl)
  rw [e, Sem.run_bind, Array.mapM_eq_mapM_toList, Sem.run_map, hr]
  simp only [Result.andThen, Sem.run_pure]
  match vs with
  | [] => rfl
  | [v] => rfl
  | v :: u :: r => simp [one]
/-- A function that may panic, and that may defer. -/
theorem v_fnD {f : Nat} {fn : Func} {c : Code} {args : List Value} {w : World} {R : Ending → World → Prop} (hf : P.funcs[f]? = some fn) (hb : fn.body = some c) (hn : args.length ≤ fn.ntmps)
    (h : vgo P T Fs fn.ntmps c (entry 0 args) w (retKD P Fs fn.results.toList R)) : Calls P f args.toArray w R := by
  refine (callsIn_wide (n := 0)).1 (callsIn_of_wp_marks (F := wideR none) hf hb trivial ?_)
  refine wpIn_mono (vgo_sound hT hF none 0 c (.inl rfl) (at_entry hn) h) ?_
  have fin : ∀ {l : Env} {a : Act}, At fn.ntmps l a → ∀ (Ds : List Deferred) (u : FrameMode) (w : World), vleaveD P Fs fn.results.toList l R Ds u w →
      LeavesInM (wideR none) 0 P fn a.tmps R Ds u w := by
    intro l a ha Ds
    induction Ds with
    | nil =>
      intro u w h
      cases u with
      | run => exact h.elim
      | returning => exact res_run (R := fun v => R (.returned v) w) ha h
      | panicking c => exact h
    | cons d Ds ih =>
      intro u w h
      simp only [vleaveD] at h
      split at h
      · rename_i D htar
        exact ⟨h.1.1, .inl ⟨D, _, htar, run_takeDeferred h.1.2, ih _ _ h.2⟩⟩
      · rename_i f cap htar
        refine ⟨h.1.1, .inr ⟨by simp [wideR], .func f, cap, f, d.args ++ cap, htar, ?_, fun _ _ => trivial, h.2.mono ?_⟩⟩
        · rw [htar]
          simp [invoke, hF f h.1.2]
          try exact hF f h.1.2 _ _
        · intro e u' w' hq
          cases e with
          | returned v => exact ih _ _ hq
          | panicked c => exact ih _ _ hq
          | outgrown => exact hq.elim
      · exact h.elim
  intro e a w hq
  cases e with
  | normal => obtain ⟨l, ha, hk⟩ := hq; have := fin ha _ _ _ hk; rw [← ha.defers] at this; exact this
  | ret => obtain ⟨l, ha, hk⟩ := hq; have := fin ha _ _ _ hk; rw [← ha.defers] at this; exact this
  | exit i => obtain ⟨l, ha, hk⟩ := hq; exact hk.elim
  | goto l => obtain ⟨l, ha, hk⟩ := hq; exact hk.elim
  | panic c => obtain ⟨l, ha, hk⟩ := (show ∃ l, At fn.ntmps l a ∧ _ from hq); have := fin ha _ _ _ hk; rw [← ha.defers] at this; exact this
  | outgrown => exact False.elim hq

/-! ### a deferred call that recovers -/
/-- What recover hands back, and the mode that it leaves. -/
def recM : FrameMode → Value × FrameMode
  | .panicking ({ v, recovered := false, goexit := false } :: older) => (v, .panicking ({ v, recovered := true } :: older))
  | u => (.nilIface, u)
/-- A deferred function's way out. -/
def retK0 (P : Program) (rs : List ResultVar) (R : Value → World → Prop) : KK where
  nrm := fun l w => marks l = [] ∧ vres P rs l w fun vs => R (one vs) w
  ret := fun l w => marks l = [] ∧ vres P rs l w fun vs => R (one vs) w
  ex := fun _ _ _ => False
theorem vops_soundS {n : Nat} {all : List Oper} {cs : List Frame} {Q : Exit → Act → List Frame → World → Prop} {K : Env → World → Prop} (hK : ∀ l a w, At n l a → K l w → Q .normal a cs w) :
    ∀ {ops : List Oper} {i : Nat} {l : Env} {a : Act} {w : World}, all.drop i = ops → At n l a → vops T Fs (valH P) n all ops l w K → wpOpsSIn (wideR none) 0 P all.toArray Q (List.range' i ops.length) a cs w
  | [], i, l, a, w, _, ha, h => hK l a w ha h
  | o :: rest, i, l, a, w, hd, ha, h => by
    have hi : all.toArray[i]? = some o := by
      have : all[i]? = some o := by rw [← List.head?_drop, hd]; rfl
      simpa using this
    have hrest : all.drop (i + 1) = rest := by rw [← List.drop_drop, hd]; rfl
    have put : ∀ {l : Env} {e : EV} {w' : World}, At n l a → vdst n o l (fun l s => vops T Fs (valH P) n all rest l s K) e w' → wpOpsSIn (wideR none) 0 P all.toArray Q (List.range' (i + 1) rest.length) (a.put o.dst e.val) cs w' := by
      intro l e w' ha h
      unfold vdst at h
      split at h
      · rename_i d hd
        split at h
        · rename_i hb
          split at h
          · rename_i hm
            rw [hd]
            exact vops_soundS hK hrest (ha.put hb e hm) h
          · exact h.elim
        · exact h.elim
      · rename_i hd
        rw [hd]
        exact vops_soundS hK hrest ha h
    have run : ∀ {l : Env}, At n l a → Region.wanted o (yielded all.toArray a.tmps) = true → vop T Fs (valH P) l o.op o.type w (vdst n o l (fun l s => vops T Fs (valH P) n all rest l s K)) → wpOpsSIn (wideR none) 0 P all.toArray Q (List.range' i (o :: rest).length) a cs w := by
      intro l ha hw h
      rw [List.length_cons, List.range'_succ]
      unfold wpOpsSIn
      rw [hi]
      refine ⟨fun _ _ => trivial, ?_⟩
      rw [if_pos hw]
      obtain ⟨e, w', hr, hk⟩ := vop_sound hT hF (val_laws P) ha h
      rcases hr with hr | ⟨hr, he⟩
      · rw [hr]; exact put ha hk
      · rw [hr]; have := put ha hk; rw [he] at this; exact this
    have skip : ∀ {l : Env}, At n l a → Region.wanted o (yielded all.toArray a.tmps) = false → vdst n o l (fun l s => vops T Fs (valH P) n all rest l s K) (.v undef) w → wpOpsSIn (wideR none) 0 P all.toArray Q (List.range' i (o :: rest).length) a cs w := by
      intro l ha hw h
      rw [List.length_cons, List.range'_succ]
      unfold wpOpsSIn
      rw [hi]
      refine ⟨fun _ _ => trivial, ?_⟩
      rw [if_neg (by rw [hw]; exact Bool.false_ne_true)]
      exact put ha h
    simp only [vops] at h
    split at h
    · rename_i hg
      exact run ha (by simp [Region.wanted, hg]) h
    · rename_i j want hg
      split at h <;> try exact h.elim
      rename_i d hj
      have lit : ∀ {b : Bool}, look l d = some (.v (.bool b)) → ∀ e : EV, e.isM = false → e.val = .bool b → At n ((d, e) :: l) a := fun {b} hl e hm he =>
        ⟨by rw [marks_cons hm]; exact ha.defers, ha.size, fun t x hx => by
          simp only [look] at hx
          by_cases hd : d = t
          · subst hd; simp at hx; subst hx; rw [ha.holds d _ hl, he]
          · rw [beqF hd] at hx; exact ha.holds t x hx⟩
      split at h
      · rename_i hl
        have hy := yielded_of ha hj hl
        cases want with
        | true => exact run ha (by simp [Region.wanted, hg, hy]) h
        | false => exact skip ha (by simp [Region.wanted, hg, hy]) h
      · rename_i hl
        have hy := yielded_of ha hj hl
        cases want with
        | true => exact skip ha (by simp [Region.wanted, hg, hy]) h
        | false => exact run ha (by simp [Region.wanted, hg, hy]) h
      · rename_i b hl
        have hy := yielded_of ha hj hl
        cases want with
        | true =>
          cases b with
          | true => exact run (lit hl .tt rfl rfl) (by simp [Region.wanted, hg, hy]) (h.1 rfl)
          | false => exact skip (lit hl .ff rfl rfl) (by simp [Region.wanted, hg, hy]) (h.2 rfl)
        | false =>
          cases b with
          | true => exact skip (lit hl .tt rfl rfl) (by simp [Region.wanted, hg, hy]) (h.1 rfl)
          | false => exact run (lit hl .ff rfl rfl) (by simp [Region.wanted, hg, hy]) (h.2 rfl)
      · rename_i vs hl
        have hy := yielded_of ha hj hl
        exact skip ha (by simp [Region.wanted, hg, hy]) h
      · exact h.elim
/-- A deferred function whose first operation is recover. -/
theorem v_deferred {f : Nat} {fn : Func} {id : Nat} {o0 : Oper} {ops : List Oper} {rest : Code} {args : List Value} {u u2 : FrameMode} {v : Value} {w : World} {R : Value → World → Prop} (hf : P.funcs[f]? = some fn)
    (hb : fn.body = some (.seq (.region id (o0 :: ops).toArray false) rest)) (hn : args.length ≤ fn.ntmps) (ho : ∀ ρ w, (execOp ρ o0).run P w = .ok .recover w) (hg : o0.guard = none) {d : Nat} (hd : o0.dst = some d) (hdn : Nat.blt d fn.ntmps = true)
    (hu : recM u = (v, u2))
    (h : vops T Fs (valH P) fn.ntmps (o0 :: ops) ops ((d, .v v) :: entry 0 args) w (fun l w => vgo P T Fs fn.ntmps rest l w (retK0 P fn.results.toList R))) :
    DefC P f args.toArray u w fun e u' w' => u' = u2 ∧ ∃ x, e = .returned x ∧ R x w' := by
  refine callsDIn_of_wpSIn hf hb trivial fun c₀ cs hc => ?_
  refine wpSIn_seq (wpSIn_region ?_)
  have ha := at_entry (args := args) hn
  have hrec : recoverD (c₀ :: cs) = some (v, { c₀ with mode := u2 } :: cs) ∨ (recoverD (c₀ :: cs) = none ∧ v = .nilIface ∧ c₀ = { c₀ with mode := u2 }) := by
    simp only [recoverD]
    rw [hc]
    unfold recM at hu
    split at hu
    · simp only [Prod.mk.injEq] at hu
      obtain ⟨rfl, rfl⟩ := hu
      exact .inl rfl
    · rename_i hnot
      simp only [Prod.mk.injEq] at hu
      obtain ⟨rfl, rfl⟩ := hu
      refine .inr ⟨?_, rfl, by rw [← hc]⟩
      split
      · rename_i hm
        first | exact absurd rfl (hnot _ _) | exact absurd hm (hnot _ _)
      · rfl
  have e0 : (o0 :: ops).toArray.size = ops.length + 1 := by simp
  rw [e0, List.range_eq_range', List.range'_succ]
  unfold wpOpsSIn
  have h0 : (o0 :: ops).toArray[0]? = some o0 := by simp
  rw [h0]
  refine ⟨fun _ _ => trivial, ?_⟩
  rw [if_pos (by simp [Region.wanted, hg]), ho]
  have key : wpOpsSIn (wideR none) 0 P (o0 :: ops).toArray (Exit.thenS (rest.wpSIn (wideR none) 0 P (bodyPostS P fn c₀ cs fun e u' w' => u' = u2 ∧ ∃ x, e = .returned x ∧ R x w')) (bodyPostS P fn c₀ cs fun e u' w' => u' = u2 ∧ ∃ x, e = .returned x ∧ R x w')) (List.range' (0 + 1) ops.length) (({ tmps := args.toArray ++ Array.replicate (fn.ntmps - args.toArray.size) undef, defers := [] } : Act).put o0.dst v) ({ c₀ with mode := u2 } :: cs) w := by
    refine vops_soundS hT hF (n := fn.ntmps) (K := fun l w => vgo P T Fs fn.ntmps rest l w (retK0 P fn.results.toList R)) ?_ (by simp) (by rw [hd]; exact ha.put hdn (.v v)) h
    intro l a w ha h
    refine wpSIn_of_wpIn rfl (wpIn_mono (vgo_sound hT hF none 0 rest (.inl rfl) ha h) ?_)
    intro e a w hq
    have fin : ∀ {l : Env} {a : Act} {w : World}, At fn.ntmps l a → (marks l = []) → vres P fn.results.toList l w (fun vs => R (one vs) w) → a.defers = [] ∧ ∃ u', { c₀ with mode := u2 } :: cs = { c₀ with mode := u' } :: cs ∧ ∃ v, (results fn a.tmps).run P w = .ok v w ∧ u' = u2 ∧ ∃ x, Ending.returned v = .returned x ∧ R x w := by
      intro l a w ha hm hk
      obtain ⟨x, hx, hR⟩ := res_run (R := fun v => R v w) ha hk
      exact ⟨by rw [ha.defers, hm], u2, rfl, x, hx, rfl, x, rfl, hR⟩
    cases e with
    | normal => obtain ⟨l, ha, hm, hk⟩ := hq; exact fin ha hm hk
    | ret => obtain ⟨l, ha, hm, hk⟩ := hq; exact fin ha hm hk
    | exit i => obtain ⟨l, ha, hk⟩ := hq; exact hk.elim
    | goto l => obtain ⟨l, ha, hk⟩ := hq; exact hk.elim
    | panic c => exact False.elim hq
    | outgrown => exact False.elim hq
  rcases hrec with hr | ⟨hr, rfl, hcc⟩
  · simp only [hr]; exact key
  · simp only [hr]; rw [← hcc] at key; exact key
end
end V
namespace V
theorem put_defers (a : Act) (dst : Option Nat) (v : Value) : (a.put dst v).defers = a.defers := by cases dst <;> rfl
def QPn (qp : List PanicEntry → World → Prop) : Exit → Act → World → Prop := fun e _ w => match e with
  | .panic c => qp c w
  | _ => False
/-- The operations' slots are none of the slots that are known. -/
def freeOps (l : Env) : List Oper → Bool
  | [] => true
  | o :: r => (match o.dst with
    | none => true
    | some d => (look l d).isNone) && freeOps l r
theorem freeOps_spec {l : Env} : ∀ {ops : List Oper}, freeOps l ops = true → ∀ o ∈ ops, ∀ d, o.dst = some d → look l d = none
  | [], _, o, ho => by cases ho
  | x :: r, h, o, ho => by
    simp only [freeOps, Bool.and_eq_true] at h
    rcases List.mem_cons.1 ho with rfl | ho
    · intro d hd
      have h1 := h.1
      rw [hd] at h1
      simpa using h1
    · exact freeOps_spec h.2 o ho
def nrmH0X (P : Program) (qp : List PanicEntry → World → Prop) : Hand World where
  run := fun s w K => ∃ v w', s.run P w = .ok v w' ∧ K v w'
  call := fun f args w K => Calls P f args w fun e w' => (∃ v, e = .returned v ∧ K v w') ∨ ∃ c, e = .panicked c ∧ qp c w'
  yield := fun _ _ _ _ => False
  ext := extP P
def Mn0X (P : Program) (qp : List PanicEntry → World → Prop) (x : Sem Next) (w : World) (K : EV → World → Prop) : Prop :=
  ∀ (o : Oper) (a : Act) (next : Act → World → Prop) (Q : Exit → Act → World → Prop), (∀ e w', K e w' → next (a.put o.dst e.val) w') → (∀ c w', qp c w' → Q (.panic c) a w') → o.upon P a next Q (x.run P w)
theorem nrm_laws0X (P : Program) (qp : List PanicEntry → World → Prop) : Laws P (nrmH0X P qp) (Mn0X P qp) where
  congr := fun h hm o a next Q hk hp => by rw [h]; exact hm o a next Q hk hp
  pure := fun hk o a next Q hn _ => by simp only [Sem.run_pure, Oper.upon_value]; exact hn _ _ hk
  run := fun {x s K} h o a next Q hn _ => by
    obtain ⟨v, w', hr, hk⟩ := h
    simp only [Sem.run_bind, hr, Result.andThen, Sem.run_pure, Oper.upon_value]
    exact hn _ _ hk
  runU := fun {x s K} h o a next Q hn _ => by
    obtain ⟨v, w', hr, hk⟩ := h
    rw [Sem.run_bind] at hr ⊢
    cases hx : x.run P s with
    | ok u w2 =>
      rw [hx] at hr
      simp only [Result.andThen, Sem.run_pure, Result.ok.injEq] at hr
      obtain ⟨rfl, rfl⟩ := hr
      simp only [Result.andThen, Sem.run_pure, Oper.upon_skip]
      exact hn _ _ hk
    | halt h w2 => rw [hx] at hr; simp [Result.andThen] at hr
  call := fun {f args s K} he h o a next Q hn hp => by
    rw [he, Oper.upon_enter]
    refine Calls.mono h ?_
    rintro e w' (⟨v, rfl, hk⟩ | ⟨c, rfl, hk⟩)
    · exact hn _ _ hk
    · exact hp _ _ hk
  yield := fun h => h.elim
  ext := fun h => h
section
variable {P : Program} {md : Region.Mode} {ops : Array Oper} {qp : List PanicEntry → World → Prop}
theorem QPn_out {p : Prop} (h : LetsOut (QPn qp)) : p := by
  obtain ⟨_, _, h⟩ := h; exact h.elim
theorem wp_of_okP {o : Oper} {a : Act} {w : World} {K K' : Act → World → Prop} {Q : Exit → Act → World → Prop} (hQ : ∀ c w, qp c w → Q (.panic c) a w) (h : ∀ a w, K a w → K' a w) (hh : o.wp P a w K (QPn qp)) : o.wp P a w K' Q := by
  unfold Oper.wp at *
  generalize (execOp a.eval o).run P w = r at *
  cases r with
  | ok n w' =>
    cases n <;> simp only [Oper.upon] at hh ⊢ <;>
      first
        | exact h _ _ hh
        | exact Calls.mono hh (fun e w'' he => by cases e <;> first | exact h _ _ he | exact hQ _ _ he | exact QPn_out he)
        | exact Rows.mono hh (fun _ _ he => h _ _ he)
        | exact hh.elim
  | halt x w' => cases x <;> simp only [Oper.upon] at hh ⊢ <;> first | exact hQ _ _ hh | exact hh | exact hh.elim
def okOpP (P : Program) (ops : Array Oper) (qp : List PanicEntry → World → Prop) (i : Nat) (K : Act → World → Prop) (a : Act) (w : World) : Prop :=
  match ops[i]? with
  | none => False
  | some o => if Region.wanted o (yielded ops a.tmps) then o.wp P a w K (QPn qp) else K (a.put o.dst undef) w
theorem wpOp_of_okP {i : Nat} {a : Act} {w : World} {K K' : Act → World → Prop} {Q : Exit → Act → World → Prop} (hQ : ∀ c w, qp c w → Q (.panic c) a w) (h : ∀ a w, K a w → K' a w) (hh : okOpP P ops qp i K a w) : wpOp P ops Q i K' a w := by
  unfold okOpP at hh
  unfold wpOp
  cases ho : ops[i]? with
  | none => simp only [ho] at hh
  | some o =>
    simp only [ho] at hh ⊢
    split
    · rename_i hw; simp only [hw, if_true] at hh; exact .inl (wp_of_okP hQ h hh)
    · rename_i hw; simp only [hw] at hh; exact h _ _ hh
theorem okOpP_mono {i : Nat} {a : Act} {w : World} {K K' : Act → World → Prop} (h : ∀ a w, K a w → K' a w) (hh : okOpP P ops qp i K a w) : okOpP P ops qp i K' a w := by
  unfold okOpP at *
  cases ho : ops[i]? with
  | none => simp only [ho] at hh
  | some o =>
    simp only [ho] at hh ⊢
    split
    · rename_i hw; simp only [hw, if_true] at hh; exact wp_of_okP (fun _ _ h => h) h hh
    · rename_i hw; simp only [hw] at hh; exact h _ _ hh
theorem YG.okP {i : Nat} {o : Oper} {v : Value} {a : Act} {w w1 : World} (hi : ops[i]? = some o) (hy : YG P ops o v a w) (hx : Ext w w1) {K : Act → World → Prop} (h : ∀ w2, Ext w1 w2 → K (a.put o.dst v) w2) : okOpP P ops qp i K a w1 := by
  have h1 := YG.ok hi hy hx h
  unfold okOp at h1
  unfold okOpP
  simp only [hi] at h1 ⊢
  split
  · rename_i hw
    simp only [hw, if_true] at h1
    exact wp_of_ok (fun _ _ h => h) h1
  · rename_i hw
    simp only [hw] at h1
    exact h1
theorem okOp_putP {j : Nat} {oi oj : Oper} {v : Value} {w w1 : World} (hj : ops[j]? = some oj) (hap : oi.apart ops oj = true)
    (hsi : ∀ cs b, oi.op ≠ .select cs b) (hsj : ∀ cs b, oj.op ≠ .select cs b) {K : Act → World → Prop} {a : Act}
    (hy : YG P ops oi v a w) (h : okOpP P ops qp j K (a.put oi.dst v) w1) :
    okOpP P ops qp j (fun a' w2 => YG P ops oi v a' w ∧ K (a'.put oi.dst v) w2) a w1 := by
  obtain ⟨h1, h2, h3⟩ := Oper.apart_spec hap
  have keep : ∀ (u : Value), YG P ops oi v (a.put oj.dst u) w := fun u =>
    hy.of_same (execOp_put oi hsi a oj.dst u h3) (wanted_put oi a oj.dst u h3)
  unfold okOpP at *
  simp only [hj] at *
  rw [wanted_put oj a oi.dst v h1] at h
  split
  · rename_i hw
    simp only [hw, if_true] at h
    unfold Oper.wp at *
    rw [execOp_put oj hsj a oi.dst v h1] at h
    generalize (execOp a.eval oj).run P w1 = r at *
    have put : ∀ (u : Value) (w2 : World), K ((a.put oi.dst v).put oj.dst u) w2 → YG P ops oi v (a.put oj.dst u) w ∧ K ((a.put oj.dst u).put oi.dst v) w2 := fun u w2 hk =>
      ⟨keep u, by rw [← Act.put_comm a v u h2]; exact hk⟩
    have putd : ∀ (x : Deferred) (w2 : World), K ({ tmps := (a.put oi.dst v).tmps, defers := x :: (a.put oi.dst v).defers : Act }.put oj.dst undef) w2 →
        YG P ops oi v ({ tmps := a.tmps, defers := x :: a.defers : Act }.put oj.dst undef) w ∧ K (({ tmps := a.tmps, defers := x :: a.defers : Act }.put oj.dst undef).put oi.dst v) w2 := fun x w2 hk => by
      have e : ({ tmps := (a.put oi.dst v).tmps, defers := x :: (a.put oi.dst v).defers } : Act) = ({ tmps := a.tmps, defers := x :: a.defers } : Act).put oi.dst v := by cases oi.dst <;> rfl
      have hy0 : YG P ops oi v { tmps := a.tmps, defers := x :: a.defers } w := hy.of_same rfl rfl
      refine ⟨hy0.of_same (execOp_put oi hsi _ oj.dst _ h3) (wanted_put oi _ oj.dst _ h3), ?_⟩
      rw [← Act.put_comm _ v undef h2, ← e]; exact hk
    cases r with
    | ok n w' =>
      cases n <;> simp only [Oper.upon] at h ⊢ <;>
        first
          | exact put _ _ h
          | exact Calls.mono h (fun e w'' he => by cases e <;> first | exact put _ _ he | exact he | exact QPn_out he)
          | exact Rows.mono h (fun _ _ he => put _ _ he)
          | exact putd _ _ h
          | exact h.elim
    | halt x w' => cases x <;> simp only [Oper.upon] at h ⊢ <;> first | exact h.elim | exact h
  · rename_i hw
    simp only [hw] at h
    exact ⟨keep _, by rw [← Act.put_comm a v undef h2]; exact h⟩
/-- What is known ahead of a region is known where it panics: of the slots. -/
structure AtS (n : Nat) (l : Env) (a : Act) : Prop where
  size : a.tmps.size = n
  holds : ∀ t x, look l t = some x → a.tmps.getD t undef = x.val
theorem AtS.free {n : Nat} {l : Env} {a : Act} (ha : AtS n l a) {dst : Option Nat} (hd : ∀ d, dst = some d → look l d = none) (v : Value) (ds : List Deferred) : AtS n l ({ a with defers := ds }.put dst v) := by
  cases dst with
  | none => exact ⟨ha.size, ha.holds⟩
  | some d =>
    refine ⟨by simpa [Act.put] using ha.size, fun t x hx => ?_⟩
    have hne : d ≠ t := fun e => by subst e; rw [hd d rfl] at hx; cases hx
    have := ha.holds t x hx
    simpa [Act.put, Array.getD_eq_getD_getElem?, Array.getElem?_setIfInBounds_ne hne] using this
theorem wpOps_at {n : Nat} {l : Env} {Q Q' : Exit → Act → World → Prop} (hfree : ∀ (i : Nat) (o : Oper), ops[i]? = some o → ∀ d, o.dst = some d → look l d = none) (hout : ∀ a w, ¬ Q' .outgrown a w)
    (hQ : ∀ e a w, AtS n l a → Q' e a w → Q e a w) : ∀ (s : List Nat) (a : Act) (w : World), AtS n l a → wpOps P ops Q' s a w → wpOps P ops Q s a w
  | [], a, w, ha, h => hQ _ _ _ ha h
  | i :: rest, a, w, ha, h => by
    unfold wpOps at h ⊢
    cases ho : ops[i]? with
    | none => simp only [ho] at h ⊢; exact wpOps_at hfree hout hQ rest a w ha h
    | some o =>
      simp only [ho] at h ⊢
      have nx : ∀ (v : Value) (ds : List Deferred) (w' : World), wpOps P ops Q' rest ({ a with defers := ds }.put o.dst v) w' → wpOps P ops Q rest ({ a with defers := ds }.put o.dst v) w' := fun v ds w' h =>
        wpOps_at hfree hout hQ rest _ w' (ha.free (hfree i o ho) v ds) h
      split
      · rename_i hw
        simp only [hw, if_true] at h
        have lo : LetsOut Q' → LetsOut Q := fun ⟨a0, w0, h⟩ => absurd h (hout a0 w0)
        rcases h with h | ⟨h1, h2⟩
        · refine .inl ?_
          unfold Oper.wp at h ⊢
          generalize (execOp a.eval o).run P w = r at *
          cases r with
          | ok n w' =>
            cases n <;> simp only [Oper.upon] at h ⊢ <;>
              first
                | exact nx _ a.defers _ h
                | exact Calls.mono h (fun e w'' he => by cases e <;> first | exact nx _ a.defers _ he | exact hQ _ _ _ ha he | exact lo he)
                | exact Rows.mono h (fun _ _ he => nx _ a.defers _ he)
                | exact nx _ _ _ h
                | exact h.elim
          | halt x w' => cases x <;> simp only [Oper.upon] at h ⊢ <;> first | exact hQ _ _ _ ha h | exact h.elim
        · exact .inr ⟨h1, lo h2⟩
      · rename_i hw
        simp only [hw] at h
        exact nx _ a.defers _ h
def headBP (P : Program) (md : Region.Mode) (ops : Array Oper) (qp : List PanicEntry → World → Prop) (bars : List Nat) (wB : World) (L : Array Bool → Act → World → Prop) : Nat → Array Bool → Act → World → Prop
  | 0, done, a, w => ∀ w1, Ext w w1 → L done a w1
  | f + 1, done, a, w => ∀ w1, Ext w w1 → Region.ready md ops done ≠ [] ∧ ∀ i ∈ Region.ready md ops done, okOpP P ops qp i (fun a' w2 => a'.defers = a.defers ∧ (bars.contains i = false → Ext wB w1 → Ext wB w2) ∧ headBP P md ops qp bars wB L f (done.setIfInBounds i true) a' w2) a w1
theorem headBP_mono {bars : List Nat} {wB : World} {L : Array Bool → Act → World → Prop} {w w' : World} (hx : Ext w w') : ∀ {f : Nat} {done : Array Bool} {a : Act}, headBP P md ops qp bars wB L f done a w → headBP P md ops qp bars wB L f done a w'
  | 0, _, _, h => fun w1 h1 => h w1 (hx.trans h1)
  | _ + 1, _, _, h => fun w1 h1 => h w1 (hx.trans h1)
theorem any_of_headBP {g : Nat} {bars : List Nat} {wB : World} {L : Array Bool → Act → World → Prop} {Q : Exit → Act → World → Prop} {D0 : List Deferred} (hQ : ∀ c a w, a.defers = D0 → qp c w → Q (.panic c) a w) (hL : ∀ done a w, L done a w → wpAny P md ops Q g done a w) :
    ∀ (f : Nat) (done : Array Bool) (a : Act) (w : World), a.defers = D0 → headBP P md ops qp bars wB L f done a w → wpAny P md ops Q (f + g) done a w := by
  intro f
  induction f with
  | zero => intro done a w _ h; rw [Nat.zero_add]; exact hL _ _ _ (h w (Ext.refl w))
  | succ f ih =>
    intro done a w hd h
    rw [show f + 1 + g = (f + g) + 1 by omega]
    have h := h w (Ext.refl w)
    exact ⟨fun h0 => absurd h0 h.1, fun i hi => wpOp_of_okP (fun c w => hQ c a w hd) (fun a' w' h' => ih _ a' w' (h'.1.trans hd) h'.2.2) (h.2 i hi)⟩
theorem headBP_take {bars : List Nat} {wB : World} {i : Nat} {oi : Oper} {v : Value} {L : Array Bool → Act → World → Prop} (hi : ops[i]? = some oi) (hsel : ∀ (j : Nat) (o : Oper) cs b, ops[j]? = some o → o.op ≠ .select cs b)
    (hbar : ∀ j, bars.contains j = true → waits2 md ops j i = true) (hdone : ∀ done a w, L done a w → Region.ready md ops done = []) :
    ∀ (f : Nat) (done : Array Bool) (a : Act) (w : World), HeadInv md ops ops.size done → Ext wB w →
      (∀ j oj, ops[j]? = some oj → j ≠ i → done.getD j true = false → (∀ e ∈ oj.after, Region.binds md e = true → e.on ≠ i) → oi.apart ops oj = true) →
      i ∈ Region.ready md ops done → YG P ops oi v a wB →
      headBP P md ops qp bars wB L f (done.setIfInBounds i true) (a.put oi.dst v) w → headBP P md ops qp bars wB L (f + 1) done a w := by
  have hsz : i < ops.size := (Array.getElem?_eq_some_iff.1 hi).1
  intro f
  induction f with
  | zero =>
    intro done a w inv hxB _ hr hy H w1 hx
    refine ⟨List.ne_nil_of_mem hr, fun j hj => ?_⟩
    by_cases e : j = i
    · subst e; exact hy.okP hi (hxB.trans hx) fun w2 h2 => ⟨by cases oi.dst <;> rfl, fun _ h => h.trans h2, headBP_mono (hx.trans h2) H⟩
    · have h1 := hdone _ _ _ (H w1 hx)
      have h2 := ready_mono (md := md) (ops := ops) hj e
      rw [h1] at h2; cases h2
  | succ f ih =>
    intro done a w inv hxB hfree hr hy H w1 hx
    have hun := (mem_ready.1 hr).1
    refine ⟨List.ne_nil_of_mem hr, fun j hj => ?_⟩
    by_cases e : j = i
    · subst e; exact hy.okP hi (hxB.trans hx) fun w2 h2 => ⟨by cases oi.dst <;> rfl, fun _ h => h.trans h2, headBP_mono (hx.trans h2) H⟩
    · obtain ⟨hjun, oj, hoj, hall⟩ := mem_ready.1 hj
      have hjsz : j < ops.size := (Array.getElem?_eq_some_iff.1 hoj).1
      have hnot : ∀ e ∈ oj.after, Region.binds md e = true → e.on ≠ i := fun e he hb heq => by
        have := hall e he hb; rw [heq, getD_both hun] at this; cases this
      have hjb : bars.contains j = false := by
        cases hb : bars.contains j with
        | false => rfl
        | true => have := hbar j hb; rw [not_waits2 inv hun hj] at this; cases this
      have key := okOp_putP hoj (hfree j oj hoj e hjun hnot) (fun cs b => hsel i oi cs b hi) (fun cs b => hsel j oj cs b hoj) hy ((H w1 hx).2 j (ready_mono hj e))
      refine okOpP_mono (fun a' w2 h3 => ⟨by have h4 := h3.2.1; rwa [put_defers, put_defers] at h4, fun hb => h3.2.2.1 hb, ih (done.setIfInBounds j true) a' w2 (inv.set hj hjsz) (h3.2.2.1 hjb (hxB.trans hx)) ?_ (ready_mono hr (Ne.symm e)) h3.1 ?_⟩) key
      · intro k ok hk hki hu hno
        refine hfree k ok hk hki ?_ hno
        by_cases hjk : j = k
        · subst hjk; exact hjun
        · rwa [getD_set_ne true hjk] at hu
      · rw [Array.setIfInBounds_comm _ _ e]; exact h3.2.2.2
def stepBP (P : Program) (ops : Array Oper) (qp : List PanicEntry → World → Prop) (bars : List Nat) (wB : World) (i : Nat) (k : Act → World → Prop) (a : Act) (w : World) : Prop :=
  ∀ w1, Ext w w1 → okOpP P ops qp i (fun a' w2 => a'.defers = a.defers ∧ obl (bars.contains i) wB w1 w2 (k a' w2)) a w1
def actMBP (P : Program) (ops : Array Oper) (qp : List PanicEntry → World → Prop) (bars : List Nat) (wB : World) (Lq : Act → World → Prop) : MT → Act → World → Prop
  | .nil, a, w => ∀ w1, Ext w w1 → Lq a w1
  | .q i r, a, w => ∃ o, ops[i]? = some o ∧ ∃ v, YG P ops o v a wB ∧ actMBP P ops qp bars wB Lq r (a.put o.dst v) w
  | .m i r, a, w => stepBP P ops qp bars wB i (actMBP P ops qp bars wB Lq r) a w
  | .br i j r s, a, w => stepBP P ops qp bars wB i (actMBP P ops qp bars wB Lq r) a w ∧ stepBP P ops qp bars wB j (actMBP P ops qp bars wB Lq s) a w
  | .br3 i j k r s t, a, w => stepBP P ops qp bars wB i (actMBP P ops qp bars wB Lq r) a w ∧ stepBP P ops qp bars wB j (actMBP P ops qp bars wB Lq s) a w ∧ stepBP P ops qp bars wB k (actMBP P ops qp bars wB Lq t) a w
  | .br4 i j k m r s t u, a, w => stepBP P ops qp bars wB i (actMBP P ops qp bars wB Lq r) a w ∧ stepBP P ops qp bars wB j (actMBP P ops qp bars wB Lq s) a w ∧ stepBP P ops qp bars wB k (actMBP P ops qp bars wB Lq t) a w ∧ stepBP P ops qp bars wB m (actMBP P ops qp bars wB Lq u) a w
theorem headBP_step {bars : List Nat} {wB : World} {f : Bool} {i : Nat} {L : Array Bool → Act → World → Prop} {k : Act → World → Prop} {g : Nat} {done : Array Bool} {a : Act} {w w1 : World} (hx : Ext w w1) (hB : f = true → Ext wB w)
    (h : stepBP P ops qp bars wB i k a w) (hk : ∀ a' w2, ((f && !bars.contains i) = true → Ext wB w2) → k a' w2 → headBP P md ops qp bars wB L g (done.setIfInBounds i true) a' w2) :
    okOpP P ops qp i (fun a' w2 => a'.defers = a.defers ∧ (bars.contains i = false → Ext wB w1 → Ext wB w2) ∧ headBP P md ops qp bars wB L g (done.setIfInBounds i true) a' w2) a w1 := by
  refine okOpP_mono (fun a' w2 h2 => ?_) (h w1 hx)
  obtain ⟨h0, h2⟩ := h2
  obtain ⟨h3, h4⟩ := obl_spec h2
  exact ⟨h0, h3, hk a' w2 (fun hf => by
    rw [Bool.and_eq_true] at hf
    exact h3 (by simpa using hf.2) ((hB hf.1).trans hx)) h4⟩
theorem headBP_mt {bars : List Nat} {wB : World} {Lq : Act → World → Prop} (hsel : Region.noSelect ops = true) :
    ∀ (r : MT) (f : Bool) (done : Array Bool) (a : Act) (w : World), HeadInv md ops ops.size done → (f = true → Ext wB w) → mbB md ops bars f r done = true → actMBP P ops qp bars wB Lq r a w →
      headBP P md ops qp bars wB (fun done a w => Region.ready md ops done = [] ∧ Lq a w) r.len done a w
  | .nil, f, done, a, w, _, _, hB, h => fun w1 hx => ⟨List.isEmpty_iff.1 hB, h w1 hx⟩
  | .q i r, f, done, a, w, inv, hxB, hB, h => by
    simp only [mbB, Bool.and_eq_true] at hB
    obtain ⟨⟨⟨⟨hf, hr⟩, hfr⟩, hb⟩, hB'⟩ := hB
    obtain ⟨o, ho, v, hy, hk⟩ := h
    have hr' : i ∈ Region.ready md ops done := by simpa using hr
    exact headBP_take ho (Region.noSelect_spec hsel) (barOk_spec hb) (fun done a w hL => hL.1) r.len done a w inv (hxB hf) (Region.free_spec ho hfr) hr' hy
      (headBP_mt hsel r f _ _ _ (inv.set hr' (Array.getElem?_eq_some_iff.1 ho).1) hxB hB' hk)
  | .m i r, f, done, a, w, inv, hxB, hB, h => by
    simp only [mbB, Bool.and_eq_true, decide_eq_true_eq] at hB
    obtain ⟨hr, hB'⟩ := hB
    intro w1 hx
    have hri : i ∈ Region.ready md ops done := by rw [hr]; simp
    have hlt : ∀ q ∈ Region.ready md ops done, q < ops.size := fun q hq => (Array.getElem?_eq_some_iff.1 (mem_ready.1 hq).2.choose_spec.1).1
    refine ⟨by rw [hr]; simp, fun j hj => ?_⟩
    rw [hr] at hj
    obtain rfl : j = i := by simpa using hj
    exact headBP_step hx hxB h fun a' w2 hb hk => headBP_mt hsel r _ _ _ _ (inv.set hri (hlt _ hri)) hb hB' hk
  | .br i j r s, f, done, a, w, inv, hxB, hB, h => by
    simp only [mbB, Bool.and_eq_true, decide_eq_true_eq] at hB
    obtain ⟨⟨⟨hr, hl⟩, hB1⟩, hB2⟩ := hB
    have hl : r.len = s.len := by simpa using hl
    intro w1 hx
    have hlt : ∀ q ∈ Region.ready md ops done, q < ops.size := fun q hq => (Array.getElem?_eq_some_iff.1 (mem_ready.1 hq).2.choose_spec.1).1
    have hri : i ∈ Region.ready md ops done := by rw [hr]; simp
    have hrj : j ∈ Region.ready md ops done := by rw [hr]; simp
    refine ⟨by rw [hr]; simp, fun k hk => ?_⟩
    rw [hr] at hk
    have hk : k = i ∨ k = j := by simpa using hk
    rcases hk with rfl | rfl
    · exact headBP_step hx hxB h.1 fun a' w2 hb hk => headBP_mt hsel r _ _ _ _ (inv.set hri (hlt _ hri)) hb hB1 hk
    · exact headBP_step hx hxB h.2 fun a' w2 hb hk => by
        have := headBP_mt (Lq := Lq) hsel s _ _ _ _ (inv.set hrj (hlt _ hrj)) hb hB2 hk
        show headBP P md ops qp bars wB _ r.len _ a' w2
        rw [hl]; exact this
  | .br3 i j k r s t, f, done, a, w, inv, hxB, hB, h => by
    simp only [mbB, Bool.and_eq_true, decide_eq_true_eq] at hB
    obtain ⟨⟨⟨⟨⟨hr, hl⟩, hl2⟩, hB1⟩, hB2⟩, hB3⟩ := hB
    have hl : r.len = s.len := by simpa using hl
    have hl2 : r.len = t.len := by simpa using hl2
    intro w1 hx
    have hlt : ∀ q ∈ Region.ready md ops done, q < ops.size := fun q hq => (Array.getElem?_eq_some_iff.1 (mem_ready.1 hq).2.choose_spec.1).1
    have hri : i ∈ Region.ready md ops done := by rw [hr]; simp
    have hrj : j ∈ Region.ready md ops done := by rw [hr]; simp
    have hrk : k ∈ Region.ready md ops done := by rw [hr]; simp
    refine ⟨by rw [hr]; simp, fun q hq => ?_⟩
    rw [hr] at hq
    have hq : q = i ∨ q = j ∨ q = k := by simpa using hq
    rcases hq with rfl | rfl | rfl
    · exact headBP_step hx hxB h.1 fun a' w2 hb hk => headBP_mt hsel r _ _ _ _ (inv.set hri (hlt _ hri)) hb hB1 hk
    · exact headBP_step hx hxB h.2.1 fun a' w2 hb hk => by
        have := headBP_mt (Lq := Lq) hsel s _ _ _ _ (inv.set hrj (hlt _ hrj)) hb hB2 hk
        show headBP P md ops qp bars wB _ r.len _ a' w2
        rw [hl]; exact this
    · exact headBP_step hx hxB h.2.2 fun a' w2 hb hk => by
        have := headBP_mt (Lq := Lq) hsel t _ _ _ _ (inv.set hrk (hlt _ hrk)) hb hB3 hk
        show headBP P md ops qp bars wB _ r.len _ a' w2
        rw [hl2]; exact this
  | .br4 i j k m r s t u, f, done, a, w, inv, hxB, hB, h => by
    simp only [mbB, Bool.and_eq_true, decide_eq_true_eq] at hB
    obtain ⟨⟨⟨⟨⟨⟨⟨hr, hl⟩, hl2⟩, hl3⟩, hB1⟩, hB2⟩, hB3⟩, hB4⟩ := hB
    have hl : r.len = s.len := by simpa using hl
    have hl2 : r.len = t.len := by simpa using hl2
    have hl3 : r.len = u.len := by simpa using hl3
    intro w1 hx
    have hlt : ∀ q ∈ Region.ready md ops done, q < ops.size := fun q hq => (Array.getElem?_eq_some_iff.1 (mem_ready.1 hq).2.choose_spec.1).1
    have hri : i ∈ Region.ready md ops done := by rw [hr]; simp
    have hrj : j ∈ Region.ready md ops done := by rw [hr]; simp
    have hrk : k ∈ Region.ready md ops done := by rw [hr]; simp
    have hrm : m ∈ Region.ready md ops done := by rw [hr]; simp
    refine ⟨by rw [hr]; simp, fun q hq => ?_⟩
    rw [hr] at hq
    have hq : q = i ∨ q = j ∨ q = k ∨ q = m := by simpa using hq
    rcases hq with rfl | rfl | rfl | rfl
    · exact headBP_step hx hxB h.1 fun a' w2 hb hk => headBP_mt hsel r _ _ _ _ (inv.set hri (hlt _ hri)) hb hB1 hk
    · exact headBP_step hx hxB h.2.1 fun a' w2 hb hk => by
        have := headBP_mt (Lq := Lq) hsel s _ _ _ _ (inv.set hrj (hlt _ hrj)) hb hB2 hk
        show headBP P md ops qp bars wB _ r.len _ a' w2
        rw [hl]; exact this
    · exact headBP_step hx hxB h.2.2.1 fun a' w2 hb hk => by
        have := headBP_mt (Lq := Lq) hsel t _ _ _ _ (inv.set hrk (hlt _ hrk)) hb hB3 hk
        show headBP P md ops qp bars wB _ r.len _ a' w2
        rw [hl2]; exact this
    · exact headBP_step hx hxB h.2.2.2 fun a' w2 hb hk => by
        have := headBP_mt (Lq := Lq) hsel u _ _ _ _ (inv.set hrm (hlt _ hrm)) hb hB4 hk
        show headBP P md ops qp bars wB _ r.len _ a' w2
        rw [hl3]; exact this
theorem actMBP_ext {bars : List Nat} {wB : World} {Lq : Act → World → Prop} : ∀ (r : MT) (a : Act) (w w' : World), Ext w w' → actMBP P ops qp bars wB Lq r a w → actMBP P ops qp bars wB Lq r a w'
  | .nil, _, _, _, hx, h => fun w1 h1 => h w1 (hx.trans h1)
  | .q _ r, _, _, _, hx, ⟨o, ho, v, hy, hk⟩ => ⟨o, ho, v, hy, actMBP_ext r _ _ _ hx hk⟩
  | .m _ _, _, _, _, hx, h => fun w1 h1 => h w1 (hx.trans h1)
  | .br _ _ _ _, _, _, _, hx, h => ⟨fun w1 h1 => h.1 w1 (hx.trans h1), fun w1 h1 => h.2 w1 (hx.trans h1)⟩
  | .br3 _ _ _ _ _ _, _, _, _, hx, h => ⟨fun w1 h1 => h.1 w1 (hx.trans h1), fun w1 h1 => h.2.1 w1 (hx.trans h1), fun w1 h1 => h.2.2 w1 (hx.trans h1)⟩
  | .br4 _ _ _ _ _ _ _ _, _, _, _, hx, h => ⟨fun w1 h1 => h.1 w1 (hx.trans h1), fun w1 h1 => h.2.1 w1 (hx.trans h1), fun w1 h1 => h.2.2.1 w1 (hx.trans h1), fun w1 h1 => h.2.2.2 w1 (hx.trans h1)⟩
theorem region_mbAP {Q : Exit → Act → World → Prop} {a : Act} (hQ : ∀ c a' w, a'.defers = a.defers → qp c w → Q (.panic c) a' w) {w : World} {l : List Oper} (bars : List Nat) (r : MT) (hm : P.follows .mixedOrders = true) (hB : (mbA l.toArray bars r && Nat.beq r.len l.length) = true)
    (h : actMBP P l.toArray qp bars w (fun a' w' => Q .normal a' w') r a w) (t : Nat) :
    wpOps P l.toArray Q (Region.schedule (P.follows .mixedOrders) l.toArray t) a { w with drawn := w.drawn + 1 } := by
  simp only [mbA, Bool.and_eq_true] at hB
  obtain ⟨⟨hsel, hmix⟩, hlen⟩ := hB
  have hlen : r.len = l.length := by simpa using hlen
  have inv0 : HeadInv .any l.toArray l.toArray.size (Array.replicate l.toArray.size false) :=
    ⟨by simp, fun j oj _ hl => (by rw [getD_replicate_false] at hl; cases hl), fun t h1 h2 => absurd h2 (by omega)⟩
  have H := headBP_mt (P := P) (md := .any) hsel r true _ a { w with drawn := w.drawn + 1 } inv0 (fun _ => (Ext.refl w).drew) hmix (actMBP_ext r a w _ (Ext.refl w).drew h)
  refine any_ops hm ?_ t
  have key := any_of_headBP (qp := qp) (Q := Q) (g := 0) hQ (fun done a' w' hL => ⟨hL.1, hL.2⟩) r.len _ a _ rfl H
  have e2 : r.len + 0 = l.toArray.size := by rw [hlen]; simp
  rwa [e2] at key
end
section
variable (P : Program) (T : Tab) (Fs : List Nat) (n : Nat) (all : List Oper) (bars : List Nat) (wB : World) (qp : List PanicEntry → World → Prop)
abbrev mStepBP (i : Nat) (k : Env → World → Prop) (l : Env) (w : World) : Prop := match all[i]? with
  | none => False
  | some o => ∀ w1, Ext w w1 → vops T Fs (nrmH0X P qp) n all [o] l w1 fun l w2 => obl (bars.contains i) wB w1 w2 (k l w2)
abbrev vmtBP (K : Env → World → Prop) : MT → Env → World → Prop
  | .nil, l, w => ∀ w1, Ext w w1 → K l w1
  | .q i r, l, w => match all[i]? with
    | none => False
    | some o => vops T Fs (quiE P wB) n all [o] l () fun l _ => vmtBP K r l w
  | .m i r, l, w => mStepBP P T Fs n all bars wB qp i (fun l w => vmtBP K r l w) l w
  | .br i j r s, l, w => mStepBP P T Fs n all bars wB qp i (fun l w => vmtBP K r l w) l w ∧ mStepBP P T Fs n all bars wB qp j (fun l w => vmtBP K s l w) l w
  | .br3 i j k r s t, l, w => mStepBP P T Fs n all bars wB qp i (fun l w => vmtBP K r l w) l w ∧ mStepBP P T Fs n all bars wB qp j (fun l w => vmtBP K s l w) l w ∧ mStepBP P T Fs n all bars wB qp k (fun l w => vmtBP K t l w) l w
  | .br4 i j k m r s t u, l, w => mStepBP P T Fs n all bars wB qp i (fun l w => vmtBP K r l w) l w ∧ mStepBP P T Fs n all bars wB qp j (fun l w => vmtBP K s l w) l w ∧ mStepBP P T Fs n all bars wB qp k (fun l w => vmtBP K t l w) l w ∧ mStepBP P T Fs n all bars wB qp m (fun l w => vmtBP K u l w) l w
end
section
variable {P : Program} {T : Tab} {Fs : List Nat} (hT : tabOk P T = true) (hF : ∀ f, memB f Fs = true → Enters P f)
include hT hF
theorem mStepBP_act {qp : List PanicEntry → World → Prop} {n : Nat} {all : List Oper} {bars : List Nat} {wB : World} {i : Nat} {k : Env → World → Prop} {q : Act → World → Prop} (hk : ∀ l a w, At n l a → k l w → q a w) {l : Env} {a : Act} {w : World} (ha : At n l a) (h : mStepBP P T Fs n all bars wB qp i k l w) :
    stepBP P all.toArray qp bars wB i q a w := by
  have ho : ∀ (b : Bool) (w1 w : World) (p p' : Prop), (p → p') → obl b wB w1 w p → obl b wB w1 w p' := fun b w1 w p p' hp h => by
    cases b with
    | true => exact hp h
    | false => exact ⟨h.1, hp h.2⟩
  unfold mStepBP at h
  cases hi : all[i]? with
  | none => simp only [hi] at h
  | some o =>
    simp only [hi] at h
    intro w1 hx
    unfold okOpP
    rw [show all.toArray[i]? = some o by simpa using hi]
    rcases vops_one hT hF (nrm_laws0X P qp) ha (h w1 hx) with ⟨hw, l', ha', hq⟩ | ⟨hw, l', ha', hk'⟩
    · simp only [hw, if_true]
      refine hq o a _ (QPn qp) (fun e w' hk' => ?_) (fun c w' hc => hc)
      obtain ⟨l2, ha2, hk'⟩ := vdst_put ha' hk'
      exact ⟨put_defers _ _ _, ho _ _ _ _ _ (hk _ _ _ ha2) hk'⟩
    · simp only [hw, Bool.false_eq_true, if_false]
      obtain ⟨l2, ha2, hk'⟩ := vdst_put ha' hk'
      exact ⟨put_defers _ _ _, ho _ _ _ _ _ (hk _ _ _ ha2) hk'⟩
theorem vmtBP_act {qp : List PanicEntry → World → Prop} {n : Nat} {all : List Oper} {bars : List Nat} {wB : World} {K : Env → World → Prop} {Lq : Act → World → Prop} (hK : ∀ l a w, At n l a → K l w → Lq a w) :
    ∀ {r : MT} {l : Env} {a : Act} {w : World}, At n l a → vmtBP P T Fs n all bars wB qp K r l w → actMBP P all.toArray qp bars wB Lq r a w
  | .nil, l, a, w, ha, h => fun w1 hx => hK _ _ _ ha (h w1 hx)
  | .q i r, l, a, w, ha, h => by
    simp only [vmtBP] at h
    cases hi : all[i]? with
    | none => simp only [hi] at h
    | some o =>
      simp only [hi] at h
      refine ⟨o, by simpa using hi, ?_⟩
      rcases vops_one hT hF (quiE_laws P wB) ha h with ⟨hw, l', ha', e, hq, hk⟩ | ⟨hw, l', ha', hk⟩
      · obtain ⟨l2, ha2, hk⟩ := vdst_put ha' hk
        exact ⟨e.val, .inl ⟨hw, hq⟩, vmtBP_act hK ha2 hk⟩
      · obtain ⟨l2, ha2, hk⟩ := vdst_put ha' hk
        exact ⟨undef, .inr ⟨hw, rfl⟩, vmtBP_act hK ha2 hk⟩
  | .m i r, l, a, w, ha, h => mStepBP_act hT hF (k := fun l w => vmtBP P T Fs n all bars wB qp K r l w) (q := fun a w => actMBP P all.toArray qp bars wB Lq r a w) (fun _ _ _ ha2 hk => vmtBP_act hK ha2 hk) ha h
  | .br i j r s, l, a, w, ha, h => ⟨mStepBP_act hT hF (k := fun l w => vmtBP P T Fs n all bars wB qp K r l w) (q := fun a w => actMBP P all.toArray qp bars wB Lq r a w) (fun _ _ _ ha2 hk => vmtBP_act hK ha2 hk) ha h.1, mStepBP_act hT hF (k := fun l w => vmtBP P T Fs n all bars wB qp K s l w) (q := fun a w => actMBP P all.toArray qp bars wB Lq s a w) (fun _ _ _ ha2 hk => vmtBP_act hK ha2 hk) ha h.2⟩
  | .br3 i j k r s t, l, a, w, ha, h => ⟨mStepBP_act hT hF (k := fun l w => vmtBP P T Fs n all bars wB qp K r l w) (q := fun a w => actMBP P all.toArray qp bars wB Lq r a w) (fun _ _ _ ha2 hk => vmtBP_act hK ha2 hk) ha h.1, mStepBP_act hT hF (k := fun l w => vmtBP P T Fs n all bars wB qp K s l w) (q := fun a w => actMBP P all.toArray qp bars wB Lq s a w) (fun _ _ _ ha2 hk => vmtBP_act hK ha2 hk) ha h.2.1, mStepBP_act hT hF (k := fun l w => vmtBP P T Fs n all bars wB qp K t l w) (q := fun a w => actMBP P all.toArray qp bars wB Lq t a w) (fun _ _ _ ha2 hk => vmtBP_act hK ha2 hk) ha h.2.2⟩
  | .br4 i j k m r s t u, l, a, w, ha, h => ⟨mStepBP_act hT hF (k := fun l w => vmtBP P T Fs n all bars wB qp K r l w) (q := fun a w => actMBP P all.toArray qp bars wB Lq r a w) (fun _ _ _ ha2 hk => vmtBP_act hK ha2 hk) ha h.1, mStepBP_act hT hF (k := fun l w => vmtBP P T Fs n all bars wB qp K s l w) (q := fun a w => actMBP P all.toArray qp bars wB Lq s a w) (fun _ _ _ ha2 hk => vmtBP_act hK ha2 hk) ha h.2.1, mStepBP_act hT hF (k := fun l w => vmtBP P T Fs n all bars wB qp K t l w) (q := fun a w => actMBP P all.toArray qp bars wB Lq t a w) (fun _ _ _ ha2 hk => vmtBP_act hK ha2 hk) ha h.2.2.1, mStepBP_act hT hF (k := fun l w => vmtBP P T Fs n all bars wB qp K u l w) (q := fun a w => actMBP P all.toArray qp bars wB Lq u a w) (fun _ _ _ ha2 hk => vmtBP_act hK ha2 hk) ha h.2.2.2⟩
theorem v_mtBP {n : Nat} {ops : List Oper} {l : Env} {w : World} {K : Env → World → Prop} {kp : List PanicEntry → Env → World → Prop} (hm : P.follows .mixedOrders = true) (bars : List Nat) (r : MT) (hB : (mbA ops.toArray bars r && Nat.beq r.len ops.length && noDefer ops) = true)
    (hfree : freeOps l ops = true) (h : vmtBP P T Fs n ops bars w (fun c w => kp c l w) K r l w) : VDrawP P n ops l w K kp := by
  have hB' := hB
  rw [Bool.and_eq_true] at hB'
  refine ⟨fun r' m a Q hQ ha hK hP t => lift_ops hQ (fun i o ho c => noDefer_spec hB'.2 o (by have := Array.mem_of_getElem? ho; simpa using this) c) _ _ _ ?_, hB'.2⟩
  refine wpOps_at (n := n) (l := l) (Q' := fun e a' w => match e with | .normal => Q .normal a' w | .panic c => kp c l w ∧ a'.defers = a.defers | _ => False) (fun i o ho => freeOps_spec hfree o (by have := Array.mem_of_getElem? ho; simpa using this)) (fun _ _ h => h) (fun e a' w hs hq => ?_) _ _ _ ⟨ha.size, ha.holds⟩ ?_
  · cases e with
    | normal => exact hq
    | panic c => exact hP c l a' w ⟨hq.2.trans ha.defers, hs.size, hs.holds⟩ hq.1
    | _ => exact False.elim hq
  · refine region_mbAP (qp := fun c w => kp c l w) (fun c a' w hd h => ⟨h, hd⟩) bars r hm hB'.1 ?_ t
    exact vmtBP_act hT hF (fun l a w ha h => hK l a w ha h) ha h
end
end V
namespace V
section
variable {P : Program} {w : World} {K : Value → World → Prop} {kp : List PanicEntry → World → Prop}
theorem CallW.outP {f : Nat} {args : Array Value} (h : CallW P f args w K) : Calls P f args w fun e w' => (∃ v, e = .returned v ∧ K v w') ∨ ∃ c, e = .panicked c ∧ kp c w' := h.out.mono fun _ _ h => .inl h
/-- A call that may panic, shut. -/
structure CallP (P : Program) (f : Nat) (args : Array Value) (w : World) (K : Value → World → Prop) (kp : List PanicEntry → World → Prop) : Prop where
  out : Calls P f args w fun e w' => (∃ v, e = .returned v ∧ K v w') ∨ ∃ c, e = .panicked c ∧ kp c w'
theorem CallP.use {f : Nat} {args : Array Value} {R : Ending → World → Prop} (h : Calls P f args w R) (hk : ∀ e w', R e w' → (∃ v, e = .returned v ∧ K v w') ∨ ∃ c, e = .panicked c ∧ kp c w') : CallP P f args w K kp := ⟨h.mono hk⟩
end
end V
set_option maxHeartbeats 4000000
def mal : List PanicEntry := [{ v := .iface 123 (.agg #[]), recovered := false }]
theorem must_t : PureF Tryz.prog 70 #[.bool true] (.tuple #[]) := by
  first | refine v_pure TTok FFok Tryz.func70 rfl rfl fun w0 => ?_ | refine v_pure (args := []) TTok FFok Tryz.func70 rfl rfl fun w0 => ?_
  conv => whnf
  refine VSeq.mk fun Kq hKq => ?_
  conv => whnf
  refine hKq _ _ _ (.refl _) ?_
  clear hKq Kq
  conv => whnf
  have hp := Hp.nil w0
  (refine And.intro (fun h => absurd h (by decide)) (fun _ => ?_); conv => whnf)
  (exact ⟨rfl, hp.ext⟩)
theorem must_f {W : World} : Calls Tryz.prog 70 #[.bool false] W fun e w' => e = .panicked mal ∧ Ext W w' := by
  refine v_fnD (args := [.bool false]) TTok FFok Tryz.func70 rfl (Nat.le_of_ble_eq_true rfl) ?_
  have hp := Hp.nil W
  conv => whnf
  refine VSeq.mk fun Kq hKq => ?_
  conv => whnf
  refine hKq _ _ _ (.refl _) ?_
  clear hKq Kq
  conv => whnf
  (refine And.intro (fun _ => ?_) (fun h => absurd h (by decide)); conv => whnf)
  (refine ⟨_, _, bld123_ _, ?_⟩; conv => whnf)
  refine ⟨.iface 123 (.agg #[]), W, by kernel_rfl, ?_⟩
  conv => whnf
  exact ⟨⟨_, _, rfl⟩, rfl, Ext.refl W⟩
theorem must_tb {b : Bool} (h : b = true) : PureF Tryz.prog 70 #[.bool b] (.tuple #[]) := by subst h; exact must_t
theorem must_fb {b : Bool} {W : World} (h : b = false) : Calls Tryz.prog 70 #[.bool b] W fun e w' => e = .panicked mal ∧ Ext W w' := by subst h; exact must_f
theorem lss_raw (xo yo : Operand) (a b : Int) (w : World) : (do eqGuard .lss 3 xo yo (.int .i64 a) (.int .i64 b); binOp .lss 3 (.int .i64 a) (.int .i64 b) : Sem Value).run Tryz.prog w = .ok (.bool (decide (a < b))) w := by
  rw [Sem.run_bind, run_eqGuard_int]
  simp [binOp, Op.intCmp, Result.andThen]
theorem and3_raw (xo yo : Operand) (n : Nat) (hn : n ≤ 1000000) (w : World) : (do eqGuard .and 3 xo yo (.int .i64 (0 - (n : Int))) (.int .i64 3); binOp .and 3 (.int .i64 (0 - (n : Int))) (.int .i64 3) : Sem Value).run Tryz.prog w = .ok (.int .i64 (padN n)) w := by
  have e : (BitVec.ofInt IntKind.i64.bits (0 - (n : Int)) &&& BitVec.ofInt IntKind.i64.bits 3).toNat = padN n := by
    rw [BitVec.toNat_and]
    have h1 : (BitVec.ofInt IntKind.i64.bits 3).toNat = 2 ^ 2 - 1 := rfl
    have h2 : (BitVec.ofInt IntKind.i64.bits (0 - (n : Int))).toNat = ((0 - (n : Int)) % 18446744073709551616).toNat := by
      rw [BitVec.toNat_ofInt]; rfl
    rw [h1, Nat.and_two_pow_sub_one_eq_mod, h2]
    unfold padN
    omega
  rw [Sem.run_bind, run_eqGuard_int]
  simp only [Result.andThen, binOp, Op.intBits, e, ne_eq, not_true_eq_false, if_false]
  rw [IntWalk.i64_in _ (by unfold padN; omega)]
  rfl
theorem drop4 {l : List UInt8} {k : Nat} (h : k + 4 ≤ l.length) : l.drop k = l.getD k 0 :: l.getD (k + 1) 0 :: l.getD (k + 2) 0 :: l.getD (k + 3) 0 :: l.drop (k + 4) := by
  have g : ∀ j, j < l.length → l.drop j = l.getD j 0 :: l.drop (j + 1) := fun j hj => by
    rw [List.drop_eq_getElem_cons hj, List.getD_eq_getElem?_getD, List.getElem?_eq_getElem hj]; rfl
  rw [g k (by omega), g (k + 1) (by omega), g (k + 2) (by omega), g (k + 3) (by omega)]
theorem ext2 (S : ByteArray) (k : Nat) (h : k + 2 ≤ S.size) : numB (S.extract k (k + 2)) = u2 (S.data.toList.getD k 0) (S.data.toList.getD (k + 1) 0) := by
  have hl := toList_len S
  unfold numB
  rw [ext_toList]
  have e : (S.data.toList.take (k + 2)).drop k = [S.data.toList.getD k 0, S.data.toList.getD (k + 1) 0] := by
    rw [List.drop_take, Nat.add_sub_cancel_left]
    have g : ∀ j, j < S.data.toList.length → S.data.toList.drop j = S.data.toList.getD j 0 :: S.data.toList.drop (j + 1) := fun j hj => by
      rw [List.drop_eq_getElem_cons hj, List.getD_eq_getElem?_getD, List.getElem?_eq_getElem hj]; rfl
    rw [g k (by omega), g (k + 1) (by omega)]
    rfl
  rw [e]
  unfold numL u2
  simp
theorem pstep_short {S : ByteArray} {k : Nat} (h : S.size < k + 4) : pstep (S.data.toList.drop k) = none := by
  have hl := toList_len S
  have : (S.data.toList.drop k).length < 4 := by rw [List.length_drop]; omega
  generalize S.data.toList.drop k = l at this
  unfold pstep
  split
  · simp only [List.length_cons] at this; omega
  · rfl
theorem zeros_iff (S : ByteArray) (j n : Nat) (h : j + n ≤ S.size) : trimB (S.extract j (j + n)) = ⟨#[]⟩ ↔ (S.data.toList.drop j).take n = List.replicate n 0 := by
  have hl := toList_len S
  have hsz : (S.extract j (j + n)).size = n := by rw [ByteArray.size_extract]; omega
  have e : (S.extract j (j + n)).data.toList = (S.data.toList.drop j).take n := by rw [ext_toList, List.drop_take, Nat.add_sub_cancel_left]
  rw [trimB_iff, hsz, List.eq_replicate_iff]
  have hlen : ((S.data.toList.drop j).take n).length = n := by rw [List.length_take, List.length_drop]; omega
  unfold byt
  rw [e]
  generalize (S.data.toList.drop j).take n = l at hlen
  constructor
  · intro hz
    refine ⟨hlen, fun b hb => ?_⟩
    obtain ⟨i, hi, rfl⟩ := List.getElem_of_mem hb
    have := hz i (by omega)
    rw [List.getD_eq_getElem?_getD, List.getElem?_eq_getElem hi] at this
    exact UInt8.toNat_inj.1 this
  · intro hz i hi
    rw [List.getD_eq_getElem?_getD, List.getElem?_eq_getElem (by omega)]
    have := hz.2 l[i] (List.getElem_mem _)
    simp [this]
theorem pstep_at {S : ByteArray} {k n d : Nat} (h : k + 4 ≤ S.size) (hn : numB (S.extract (k + 2) (k + 2 + 2)) = n) (hd : numB (S.extract k (k + 2)) = d) :
    pstep (S.data.toList.drop k) = if k + 4 + n + padN n ≤ S.size ∧ trimB (S.extract (k + 4 + n) (k + 4 + n + padN n)) = ⟨#[]⟩ then some ((((d : Nat) : Int), S.extract (k + 4) (k + 4 + n)), S.data.toList.drop (k + 4 + n + padN n)) else none := by
  have hl := toList_len S
  rw [ext2 S (k + 2) (by omega)] at hn
  rw [ext2 S k (by omega)] at hd
  rw [drop4 (by omega)]
  unfold pstep
  dsimp only
  rw [hn, hd, List.length_drop, List.drop_drop, List.drop_drop]
  by_cases hc : k + 4 + n + padN n ≤ S.size
  · have hz := zeros_iff S (k + 4 + n) (padN n) hc
    by_cases ht : trimB (S.extract (k + 4 + n) (k + 4 + n + padN n)) = ⟨#[]⟩
    · rw [if_pos ⟨by omega, by rw [← hz.1 ht]⟩, if_pos ⟨hc, ht⟩]
      simp only [Option.some.injEq, Prod.mk.injEq, true_and]
      refine ⟨?_, by rw [Nat.add_assoc (k + 4)]⟩
      apply ba_eq
      rw [ext_toList, List.drop_take, Nat.add_sub_cancel_left]
    · rw [if_neg (fun h => ht (hz.2 h.2)), if_neg (fun h => ht h.2)]
  · rw [if_neg (fun h => hc (by omega)), if_neg (fun h => hc h.1)]
end Go.Proofs.YtmlmfmdmomegpaaGreatDoor
