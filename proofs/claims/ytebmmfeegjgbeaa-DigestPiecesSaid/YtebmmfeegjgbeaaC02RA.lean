/- Chapter 02: the reference's words, as lists of bits. -/
import Derived.Test.YtebmmfeegjgbeaaC02W
namespace Go.Proofs.Ytebmmfeegjgbeaa
set_option linter.unusedSimpArgs false
set_option linter.unusedVariables false
open Go.RowKit V
set_option maxRecDepth 100000
def wb (f : Nat → Bool) : List Value := (List.range 32).map fun i => Value.bool (f i)
theorem wb_len (f : Nat → Bool) : (wb f).length = 32 := by simp [wb]
theorem wb_get (f : Nat → Bool) (i : Nat) (h : i < 32) : (wb f)[i]? = some (.bool (f i)) := by
  unfold wb; rw [List.getElem?_map, List.getElem?_range h]; rfl
theorem wb_congr {f g : Nat → Bool} (h : ∀ i, i < 32 → f i = g i) : wb f = wb g := by
  unfold wb
  refine List.map_congr_left fun i hi => ?_
  rw [h i (List.mem_range.1 hi)]
theorem wb_set (f : Nat → Bool) (i : Nat) (b : Bool) : (wb f).set i (.bool b) = wb fun j => if j = i then b else f j := by
  apply List.ext_getElem?
  intro j
  rcases Nat.lt_or_ge j 32 with h | h
  · rw [wb_get _ j h, List.getElem?_set, wb_len, wb_get f j h]
    by_cases e : i = j
    · subst e; rw [if_pos rfl, if_pos h, if_pos rfl]
    · rw [if_neg e, if_neg (fun x => e x.symm)]
  · rw [List.getElem?_eq_none (by rw [List.length_set, wb_len]; omega), List.getElem?_eq_none (by rw [wb_len]; omega)]
theorem wb_zero : List.replicate 32 (Value.bool false) = wb fun _ => false := rfl
theorem wb_one (f : Nat → Bool) : ∀ u ∈ wb f, u.oneCell' = true := by
  intro u hu
  obtain ⟨i, _, rfl⟩ := List.mem_map.1 hu
  rfl
/-- the words of numbers -/
def wd (n : Nat) : List Value := wb fun i => n.testBit (31 - i)
def wV (n : Nat) : Value := .agg (wd n).toArray
theorem wd_len (n : Nat) : (wd n).length = 32 := wb_len _
theorem wd_one (n : Nat) : ∀ u ∈ wd n, u.oneCell' = true := wb_one _
theorem wd_get (n i : Nat) (h : i < 32) : (wd n)[i]? = some (.bool (n.testBit (31 - i))) := wb_get _ i h
/-- what a list of bits is filled with, from the right and from the left -/
def upR (F : Nat → Bool) (j : Nat) : Nat → Bool := fun i => if 32 ≤ i + j then F i else false
def upL (F : Nat → Bool) (j : Nat) : Nat → Bool := fun i => if i < j then F i else false
theorem upR_zero (F : Nat → Bool) : wb (upR F 0) = wb fun _ => false := wb_congr fun i h => if_neg (by omega)
theorem upR_all (F : Nat → Bool) : wb (upR F 32) = wb F := wb_congr fun i h => if_pos (by omega)
theorem upL_zero (F : Nat → Bool) : wb (upL F 0) = wb fun _ => false := wb_congr fun i h => if_neg (by omega)
theorem upL_all (F : Nat → Bool) : wb (upL F 32) = wb F := wb_congr fun i h => if_pos h
theorem upR_set (F : Nat → Bool) (j : Nat) (b : Bool) (h : j < 32) (hb : b = F (31 - j)) : (wb (upR F j)).set (31 - j) (.bool b) = wb (upR F (j + 1)) := by
  rw [wb_set]
  refine wb_congr fun i hi => ?_
  unfold upR
  by_cases e : i = 31 - j
  · subst e; rw [if_pos rfl, if_pos (by omega), hb]
  · rw [if_neg e]
    by_cases e2 : 32 ≤ i + j
    · rw [if_pos e2, if_pos (by omega)]
    · rw [if_neg e2, if_neg (by omega)]
theorem upL_set (F : Nat → Bool) (j : Nat) (b : Bool) (hb : b = F j) : (wb (upL F j)).set j (.bool b) = wb (upL F (j + 1)) := by
  rw [wb_set]
  refine wb_congr fun i hi => ?_
  unfold upL
  by_cases e : i = j
  · subst e; rw [if_pos rfl, if_pos (by omega), hb]
  · rw [if_neg e]
    by_cases e2 : i < j
    · rw [if_pos e2, if_pos (by omega)]
    · rw [if_neg e2, if_neg (by omega)]
set_option maxHeartbeats 1600000 in
theorem word_p (n : Nat) (hn : n < M32) : PureF Try.prog 79 #[.int .i64 n] (wV n) := by
  unfold wV
  have hn : n < 4294967296 := hn
  first | refine v_pure TTok FFok Try.func79 rfl rfl fun w0 => ?_ | refine v_pure (args := []) TTok FFok Try.func79 rfl rfl fun w0 => ?_
  conv => whnf
  refine VSeq.mk fun Kq hKq => ?_
  conv => whnf
  have hp := Hp.nil w0
  refine hp.kalloc z126 fun q1 w hp hx => ?_
  conv => whnf
  refine hKq _ _ _ (V.Sub.refl _) ?_
  clear hKq Kq
  conv => whnf
  refine VSeq.mk fun Kq hKq => ?_
  conv => whnf
  refine hp.kalloc z126 fun q2 w hp hx => ?_
  conv => whnf
  refine hKq _ _ _ (V.Sub.refl _) ?_
  clear hKq Kq
  conv => whnf
  refine VSeq.mk fun Kq hKq => ?_
  conv => whnf
  refine VSeq.mk fun Kq hKq => ?_
  conv => whnf
  refine hKq _ _ _ (V.Sub.refl _) ?_
  clear hKq Kq
  conv => whnf
  have hp : HpM [] w0 w [blk q2 (wb (upR (fun i => n.testBit (31 - i)) 0)) 126, blk q1 (wb fun _ => false) 126] := by rw [upR_zero]; exact hp
  refine ⟨fun mm e w' => ∃ (j m : Nat), mm + j = 32 ∧ m = n / 2 ^ j ∧ e = [(0, .v (.int .i64 m)), (2, .v (.pointer (some ⟨q1, 0, none⟩))), (3, .v (.pointer (some ⟨q2, 0, none⟩))), (4, .v (.int .i64 (31 - (j : Int))))] ∧ HpM [] w0 w' [blk q2 (wb (upR (fun i => n.testBit (31 - i)) j)) 126, blk q1 (wb fun _ => false) 126],
      ⟨32, _, ⟨0, n, by omega, by rw [Nat.pow_zero, Nat.div_one], rfl, hp⟩, sub_cons rfl (sub_cons rfl (sub_cons rfl (sub_cons rfl sub_nil)))⟩, ?_⟩
  clear hp hx
  repeat clear hp
  rintro mm _ w ⟨j, m, hmm, hm, rfl, hp⟩
  have hle : n / 2 ^ j ≤ n := Nat.div_le_self _ _
  rw [← hm] at hle
  have hbit : decide (m % 2 = 1) = n.testBit (31 - (31 - j)) ∨ 32 ≤ j := by
    rcases Nat.lt_or_ge j 32 with h | h
    · left; rw [show 31 - (31 - j) = j by omega, Nat.testBit_eq_decide_div_mod_eq, hm]
    · exact .inr h
  conv => whnf
  refine VSeq.mk fun Kq hKq => ?_
  conv => whnf
  refine VSeq.mk fun Kq hKq => ?_
  conv => whnf
  refine hKq _ _ _ (V.Sub.refl _) ?_
  clear hKq Kq
  conv => whnf
  refine ⟨fun hlt => ?_, fun hlt => ?_⟩
  · have hlt := of_decide_eq_true hlt
    conv => whnf
    refine hKq _ _ _ (V.Sub.refl _) ?_
    clear hKq Kq
    conv => whnf
    refine VSeq.mk fun Kq hKq => ?_
    conv => whnf
    refine VSeq.mk fun Kq hKq => ?_
    conv => whnf
    refine And.intro (by omega) ?_
    conv => whnf
    have hb := hbit.resolve_right (by omega)
    have hs := upR_set (fun i => n.testBit (31 - i)) j (decide (m % 2 = 1)) (by omega) hb
    have hd : decide (((m : Nat) : Int) % 2 = 1) = decide (m % 2 = 1) := by
      rw [decide_eq_decide]; omega
    rw [hd]
    refine ⟨31 - j, ⟨by first | rfl | omega, by omega⟩, ?_⟩
    conv => whnf
    refine hp.kst1 (off := 31 - j) TTok (by rfl) 0 (by rfl) (by rfl) (by rfl) (by rw [wb_len]; omega) fun w hp => ?_
    try simp only [List.set_cons_zero, List.set_cons_succ, EV.val] at hp
    conv => whnf
    refine hKq _ _ _ (V.Sub.refl _) ?_
    clear hKq Kq
    conv => whnf
    refine And.intro (by omega) ?_
    conv => whnf
    refine hKq _ _ _ (V.Sub.refl _) ?_
    clear hKq Kq
    conv => whnf
    refine And.intro (by omega) ?_
    conv => whnf
    rw [hs] at hp
    exact ⟨mm - 1, _, by omega, ⟨j + 1, m / 2, by omega, by rw [hm, Nat.div_div_eq_div_mul, Nat.pow_succ], rfl, hp⟩, sub_cons rfl (sub_cons rfl (sub_cons rfl (sub_cons (by show some _ = some _; congr 3; omega) sub_nil)))⟩
  · have hlt := of_decide_eq_false hlt
    conv => whnf
    clear hKq Kq
    refine hKq _ _ _ (V.Sub.refl _) ?_
    clear hKq Kq
    conv => whnf
    refine VSeq.mk fun Kq hKq => ?_
    conv => whnf
    obtain rfl : j = 32 := by omega
    rw [upR_all] at hp
    refine ⟨_, _, Blk.ldN (hp.get (i := 0) rfl) TTok rfl (wb_len _), ?_⟩
    conv => whnf
    refine hp.kstA TTok rfl 1 rfl (wb_len _) (wb_one _) (wb_len _) fun w hp => ?_
    try simp only [List.set_cons_zero, List.set_cons_succ, EV.val] at hp
    conv => whnf
    refine hKq _ _ _ (V.Sub.refl _) ?_
    clear hKq Kq
    conv => whnf
    exact ⟨_, Blk.lvN (hp.get (i := 1) rfl) TTok rfl (wb_len _), rfl, hp.ext⟩
/-- the number of the first bits -/
def vlJ (n : Nat) (j : Nat) : Nat := n / 2 ^ (32 - j)
set_option maxHeartbeats 1600000 in
theorem value_p (n : Nat) (hn : n < M32) : PureF Try.prog 81 #[wV n] (.int .i64 n) := by
  unfold wV
  have hn : n < 4294967296 := hn
  first | refine v_pure TTok FFok Try.func81 rfl rfl fun w0 => ?_ | refine v_pure (args := []) TTok FFok Try.func81 rfl rfl fun w0 => ?_
  conv => whnf
  refine VSeq.mk fun Kq hKq => ?_
  conv => whnf
  have hp := Hp.nil w0
  refine hp.kbox (wd n) rfl fun q1 w hp hx => ?_
  conv => whnf
  refine hKq _ _ _ (V.Sub.refl _) ?_
  clear hKq Kq
  conv => whnf
  refine VSeq.mk fun Kq hKq => ?_
  conv => whnf
  refine hKq _ _ _ (V.Sub.refl _) ?_
  clear hKq Kq
  conv => whnf
  refine VSeq.mk fun Kq hKq => ?_
  conv => whnf
  refine VSeq.mk fun Kq hKq => ?_
  conv => whnf
  refine hKq _ _ _ (V.Sub.refl _) ?_
  clear hKq Kq
  conv => whnf
  have hp : HpM [] w0 w [blk q1 (wd n) 126] := hp
  refine ⟨fun mm e w' => ∃ (j v : Nat), mm + j = 32 ∧ v = n / 2 ^ (32 - j) ∧ e = [(1, .v (.pointer (some ⟨q1, 0, none⟩))), (3, .v (.int .i64 v)), (4, .v (.int .i64 j))] ∧ HpM [] w0 w' [blk q1 (wd n) 126],
      ⟨32, _, ⟨0, 0, by omega, by rw [Nat.sub_zero]; omega, rfl, hp⟩, sub_cons rfl (sub_cons rfl (sub_cons rfl sub_nil))⟩, ?_⟩
  clear hp hx
  repeat clear hp
  rintro mm _ w ⟨j, v, hmm, hv, rfl, hp⟩
  have hle : n / 2 ^ (32 - j) ≤ n := Nat.div_le_self _ _
  rw [← hv] at hle
  conv => whnf
  refine VSeq.mk fun Kq hKq => ?_
  conv => whnf
  refine VSeq.mk fun Kq hKq => ?_
  conv => whnf
  refine hKq _ _ _ (V.Sub.refl _) ?_
  clear hKq Kq
  conv => whnf
  refine ⟨fun hlt => ?_, fun hlt => ?_⟩
  · have hlt := of_decide_eq_true hlt
    conv => whnf
    refine hKq _ _ _ (V.Sub.refl _) ?_
    clear hKq Kq
    conv => whnf
    refine VSeq.mk fun Kq hKq => ?_
    conv => whnf
    refine VSeq.mk fun Kq hKq => ?_
    conv => whnf
    refine And.intro (by omega) ?_
    conv => whnf
    refine hKq _ _ _ (V.Sub.refl _) ?_
    clear hKq Kq
    conv => whnf
    refine VSeq.mk fun Kq hKq => ?_
    conv => whnf
    have hv2 : n / 2 ^ (32 - (j + 1)) = 2 * v + (n.testBit (31 - j)).toNat := by
      rw [Nat.toNat_testBit, hv, show 32 - j = (31 - j) + 1 by omega, show 32 - (j + 1) = 31 - j by omega, Nat.pow_succ, ← Nat.div_div_eq_div_mul]
      omega
    have hle2 : n / 2 ^ (32 - (j + 1)) ≤ n := Nat.div_le_self _ _
    rw [hv2] at hle2
    refine ⟨j, ⟨by first | rfl | omega, by omega⟩, ?_⟩
    conv => whnf
    refine ⟨_, _, Blk.ld (hp.get (i := 0) rfl) TTok rfl (wd_get n j (by omega)), ?_⟩
    conv => whnf
    refine hKq _ _ _ (V.Sub.refl _) ?_
    clear hKq Kq
    conv => whnf
    cases hb : n.testBit (31 - j) with
    | true =>
      rw [hb] at hv2 hle2
      have hle2 : 2 * v + 1 ≤ n := hle2
      refine And.intro (fun _ => ?_) (fun h => by cases h)
      conv => whnf
      refine And.intro (by omega) ?_
      conv => whnf
      refine hKq _ _ _ (V.Sub.refl _) ?_
      clear hKq Kq
      conv => whnf
      refine And.intro (by omega) ?_
      conv => whnf
      exact ⟨mm - 1, _, by omega, ⟨j + 1, 2 * v + 1, by omega, hv2.symm, rfl, hp⟩, sub_cons rfl (sub_cons rfl (sub_cons rfl sub_nil))⟩
    | false =>
      rw [hb] at hv2 hle2
      have hle2 : 2 * v ≤ n := hle2
      refine And.intro (fun h => by cases h) (fun _ => ?_)
      conv => whnf
      refine hKq _ _ _ (V.Sub.refl _) ?_
      clear hKq Kq
      conv => whnf
      refine And.intro (by omega) ?_
      conv => whnf
      exact ⟨mm - 1, _, by omega, ⟨j + 1, 2 * v, by omega, hv2.symm, rfl, hp⟩, sub_cons rfl (sub_cons rfl (sub_cons rfl sub_nil))⟩
  · have hlt := of_decide_eq_false hlt
    conv => whnf
    clear hKq Kq
    refine hKq _ _ _ (V.Sub.refl _) ?_
    clear hKq Kq
    conv => whnf
    refine VSeq.mk fun Kq hKq => ?_
    conv => whnf
    refine hKq _ _ _ (V.Sub.refl _) ?_
    clear hKq Kq
    conv => whnf
    obtain rfl : j = 32 := by omega
    rw [Nat.sub_self, Nat.pow_zero, Nat.div_one] at hv
    rw [hv]
    exact ⟨rfl, hp.ext⟩
/-- filled in an order -/
def up (S : Nat → Nat) (F : Nat → Bool) (j : Nat) : Nat → Bool := fun x => if S x < j then F x else false
theorem up_zero (S : Nat → Nat) (F : Nat → Bool) : wb (up S F 0) = wb fun _ => false := wb_congr fun i h => if_neg (by omega)
theorem up_set (S : Nat → Nat) (F : Nat → Bool) (j y : Nat) (b : Bool) (hS : ∀ x, x < 32 → (S x = j ↔ x = y)) (hy : y < 32) (hb : b = F y) : (wb (up S F j)).set y (.bool b) = wb (up S F (j + 1)) := by
  rw [wb_set]
  refine wb_congr fun i hi => ?_
  unfold up
  by_cases e : i = y
  · subst e; rw [if_pos rfl, if_pos (by have := (hS i hi).2 rfl; omega), hb]
  · rw [if_neg e]
    have hne : S i ≠ j := fun h => e ((hS i hi).1 h)
    by_cases e2 : S i < j
    · rw [if_pos e2, if_pos (by omega)]
    · rw [if_neg e2, if_neg (by omega)]
set_option maxHeartbeats 1600000 in
theorem turned_raw (n k : Nat) (hk : k < 32) : PureF Try.prog 83 #[wV n, .int .i64 k] (.agg (wb fun x => n.testBit (31 - (x + 32 - k) % 32)).toArray) := by
  unfold wV
  first | refine v_pure TTok FFok Try.func83 rfl rfl fun w0 => ?_ | refine v_pure (args := []) TTok FFok Try.func83 rfl rfl fun w0 => ?_
  conv => whnf
  refine VSeq.mk fun Kq hKq => ?_
  conv => whnf
  have hp := Hp.nil w0
  refine hp.kbox (wd n) rfl fun q1 w hp hx => ?_
  conv => whnf
  refine hp.kalloc z126 fun q2 w hp hx => ?_
  conv => whnf
  refine hKq _ _ _ (V.Sub.refl _) ?_
  clear hKq Kq
  conv => whnf
  refine VSeq.mk fun Kq hKq => ?_
  conv => whnf
  refine hp.kalloc z126 fun q3 w hp hx => ?_
  conv => whnf
  refine hKq _ _ _ (V.Sub.refl _) ?_
  clear hKq Kq
  conv => whnf
  refine VSeq.mk fun Kq hKq => ?_
  conv => whnf
  refine VSeq.mk fun Kq hKq => ?_
  conv => whnf
  refine hKq _ _ _ (V.Sub.refl _) ?_
  clear hKq Kq
  conv => whnf
  have hp : HpM [] w0 w [blk q3 (wb (up (fun x => (x + 32 - k) % 32) (fun x => n.testBit (31 - (x + 32 - k) % 32)) 0)) 126, blk q2 (wb fun _ => false) 126, blk q1 (wd n) 126] := by rw [up_zero]; exact hp
  refine ⟨fun mm e w' => ∃ (j : Nat), mm + j = 32 ∧ e = [(1, .v (.int .i64 k)), (2, .v (.pointer (some ⟨q1, 0, none⟩))), (4, .v (.pointer (some ⟨q2, 0, none⟩))), (5, .v (.pointer (some ⟨q3, 0, none⟩))), (6, .v (.int .i64 j))] ∧ HpM [] w0 w' [blk q3 (wb (up (fun x => (x + 32 - k) % 32) (fun x => n.testBit (31 - (x + 32 - k) % 32)) j)) 126, blk q2 (wb fun _ => false) 126, blk q1 (wd n) 126],
      ⟨32, _, ⟨0, by omega, rfl, hp⟩, sub_cons rfl (sub_cons rfl (sub_cons rfl (sub_cons rfl (sub_cons rfl sub_nil))))⟩, ?_⟩
  clear hp hx
  repeat clear hp
  rintro mm _ w ⟨j, hmm, rfl, hp⟩
  conv => whnf
  refine VSeq.mk fun Kq hKq => ?_
  conv => whnf
  refine VSeq.mk fun Kq hKq => ?_
  conv => whnf
  refine hKq _ _ _ (V.Sub.refl _) ?_
  clear hKq Kq
  conv => whnf
  refine ⟨fun hlt => ?_, fun hlt => ?_⟩
  · have hlt := of_decide_eq_true hlt
    conv => whnf
    refine hKq _ _ _ (V.Sub.refl _) ?_
    clear hKq Kq
    conv => whnf
    refine VSeq.mk fun Kq hKq => ?_
    conv => whnf
    refine And.intro (by omega) ?_
    conv => whnf
    refine And.intro (by omega) ?_
    conv => whnf
    have hb : n.testBit (31 - j) = n.testBit (31 - ((j + k) % 32 + 32 - k) % 32) := by congr 2; omega
    have hs := up_set (fun x => (x + 32 - k) % 32) (fun x => n.testBit (31 - (x + 32 - k) % 32)) j ((j + k) % 32) (n.testBit (31 - j)) (fun x hx => by show (x + 32 - k) % 32 = j ↔ _; omega) (by omega) hb
    refine ⟨j, ⟨by first | rfl | omega, by omega⟩, ?_⟩
    conv => whnf
    refine ⟨_, _, Blk.ld (hp.get (i := 2) rfl) TTok rfl (wd_get n j (by omega)), ?_⟩
    conv => whnf
    refine ⟨(j + k) % 32, ⟨by first | rfl | omega, by omega⟩, ?_⟩
    conv => whnf
    refine hp.kst1 (off := (j + k) % 32) TTok (by rfl) 0 (by rfl) (by rfl) (by rfl) (by rw [wb_len]; omega) fun w hp => ?_
    try simp only [List.set_cons_zero, List.set_cons_succ, EV.val] at hp
    conv => whnf
    refine hKq _ _ _ (V.Sub.refl _) ?_
    clear hKq Kq
    conv => whnf
    refine And.intro (by omega) ?_
    conv => whnf
    rw [hs] at hp
    exact ⟨mm - 1, _, by omega, ⟨j + 1, by omega, rfl, hp⟩, sub_cons rfl (sub_cons rfl (sub_cons rfl (sub_cons rfl (sub_cons rfl sub_nil))))⟩
  · have hlt := of_decide_eq_false hlt
    conv => whnf
    clear hKq Kq
    refine hKq _ _ _ (V.Sub.refl _) ?_
    clear hKq Kq
    conv => whnf
    refine VSeq.mk fun Kq hKq => ?_
    conv => whnf
    obtain rfl : j = 32 := by omega
    have he : wb (up (fun x => (x + 32 - k) % 32) (fun x => n.testBit (31 - (x + 32 - k) % 32)) 32) = wb fun x => n.testBit (31 - (x + 32 - k) % 32) := wb_congr fun i hi => if_pos (by show (i + 32 - k) % 32 < 32; omega)
    rw [he] at hp
    refine ⟨_, _, Blk.ldN (hp.get (i := 0) rfl) TTok rfl (wb_len _), ?_⟩
    conv => whnf
    refine hp.kstA TTok rfl 1 rfl (wb_len _) (wb_one _) (wb_len _) fun w hp => ?_
    try simp only [List.set_cons_zero, List.set_cons_succ, EV.val] at hp
    conv => whnf
    refine hKq _ _ _ (V.Sub.refl _) ?_
    clear hKq Kq
    conv => whnf
    exact ⟨_, Blk.lvN (hp.get (i := 1) rfl) TTok rfl (wb_len _), rfl, hp.ext⟩
set_option maxHeartbeats 1600000 in
theorem moved_raw (n k : Nat) (hk : k < 32) (hn : n < M32) : PureF Try.prog 84 #[wV n, .int .i64 k] (wV (n / 2 ^ k)) := by
  unfold wV
  first | refine v_pure TTok FFok Try.func84 rfl rfl fun w0 => ?_ | refine v_pure (args := []) TTok FFok Try.func84 rfl rfl fun w0 => ?_
  conv => whnf
  refine VSeq.mk fun Kq hKq => ?_
  conv => whnf
  have hp := Hp.nil w0
  refine hp.kbox (wd n) rfl fun q1 w hp hx => ?_
  conv => whnf
  refine hp.kalloc z126 fun q2 w hp hx => ?_
  conv => whnf
  refine hKq _ _ _ (V.Sub.refl _) ?_
  clear hKq Kq
  conv => whnf
  refine VSeq.mk fun Kq hKq => ?_
  conv => whnf
  refine hp.kalloc z126 fun q3 w hp hx => ?_
  conv => whnf
  refine hKq _ _ _ (V.Sub.refl _) ?_
  clear hKq Kq
  conv => whnf
  refine VSeq.mk fun Kq hKq => ?_
  conv => whnf
  refine VSeq.mk fun Kq hKq => ?_
  conv => whnf
  refine hKq _ _ _ (V.Sub.refl _) ?_
  clear hKq Kq
  conv => whnf
  obtain ⟨S, hS⟩ : ∃ S : Nat → Nat, S = fun x => if x < k then 1000 else x - k := ⟨_, rfl⟩
  have hp : HpM [] w0 w [blk q3 (wb (up S (fun i => (n / 2 ^ k).testBit (31 - i)) 0)) 126, blk q2 (wb fun _ => false) 126, blk q1 (wd n) 126] := by rw [up_zero]; exact hp
  refine ⟨fun mm e w' => ∃ (j : Nat), mm + j = 32 - k ∧ e = [(1, .v (.int .i64 k)), (2, .v (.pointer (some ⟨q1, 0, none⟩))), (4, .v (.pointer (some ⟨q2, 0, none⟩))), (5, .v (.pointer (some ⟨q3, 0, none⟩))), (6, .v (.int .i64 j))] ∧ HpM [] w0 w' [blk q3 (wb (up S (fun i => (n / 2 ^ k).testBit (31 - i)) j)) 126, blk q2 (wb fun _ => false) 126, blk q1 (wd n) 126],
      ⟨32 - k, _, ⟨0, by omega, rfl, hp⟩, sub_cons rfl (sub_cons rfl (sub_cons rfl (sub_cons rfl (sub_cons rfl sub_nil))))⟩, ?_⟩
  clear hp hx
  repeat clear hp
  rintro mm _ w ⟨j, hmm, rfl, hp⟩
  conv => whnf
  refine VSeq.mk fun Kq hKq => ?_
  conv => whnf
  refine VSeq.mk fun Kq hKq => ?_
  conv => whnf
  refine And.intro (by omega) ?_
  conv => whnf
  refine hKq _ _ _ (V.Sub.refl _) ?_
  clear hKq Kq
  conv => whnf
  refine ⟨fun hlt => ?_, fun hlt => ?_⟩
  · have hlt := of_decide_eq_true hlt
    conv => whnf
    refine hKq _ _ _ (V.Sub.refl _) ?_
    clear hKq Kq
    conv => whnf
    refine VSeq.mk fun Kq hKq => ?_
    conv => whnf
    refine And.intro (by omega) ?_
    conv => whnf
    have hb : n.testBit (31 - j) = (n / 2 ^ k).testBit (31 - (j + k)) := by
      rw [Nat.testBit_div_two_pow]; congr 1; omega
    have hs := up_set S (fun i => (n / 2 ^ k).testBit (31 - i)) j (j + k) (n.testBit (31 - j)) (fun x hx => by subst hS; dsimp only; split <;> omega) (by omega) hb
    refine ⟨j, ⟨by first | rfl | omega, by omega⟩, ?_⟩
    conv => whnf
    refine ⟨_, _, Blk.ld (hp.get (i := 2) rfl) TTok rfl (wd_get n j (by omega)), ?_⟩
    conv => whnf
    refine ⟨j + k, ⟨by first | rfl | omega, by omega⟩, ?_⟩
    conv => whnf
    refine hp.kst1 (off := j + k) TTok (by rfl) 0 (by rfl) (by rfl) (by rfl) (by rw [wb_len]; omega) fun w hp => ?_
    try simp only [List.set_cons_zero, List.set_cons_succ, EV.val] at hp
    conv => whnf
    refine hKq _ _ _ (V.Sub.refl _) ?_
    clear hKq Kq
    conv => whnf
    refine And.intro (by omega) ?_
    conv => whnf
    rw [hs] at hp
    exact ⟨mm - 1, _, by omega, ⟨j + 1, by omega, rfl, hp⟩, sub_cons rfl (sub_cons rfl (sub_cons rfl (sub_cons rfl (sub_cons rfl sub_nil))))⟩
  · have hlt := of_decide_eq_false hlt
    conv => whnf
    clear hKq Kq
    refine hKq _ _ _ (V.Sub.refl _) ?_
    clear hKq Kq
    conv => whnf
    refine VSeq.mk fun Kq hKq => ?_
    conv => whnf
    obtain rfl : j = 32 - k := by omega
    have he : wb (up S (fun i => (n / 2 ^ k).testBit (31 - i)) (32 - k)) = wd (n / 2 ^ k) := by
      refine wb_congr fun i hi => ?_
      show (if S i < 32 - k then _ else _) = _
      by_cases h : i < k
      · have e1 : S i = 1000 := by subst hS; exact if_pos h
        rw [if_neg (by omega), Nat.testBit_div_two_pow]
        refine (Nat.testBit_lt_two_pow (Nat.lt_of_lt_of_le hn ?_)).symm
        show 2 ^ 32 ≤ _
        exact Nat.pow_le_pow_right (by decide) (by omega)
      · have e1 : S i = i - k := by subst hS; exact if_neg h
        rw [if_pos (by omega)]
    rw [he] at hp
    refine ⟨_, _, Blk.ldN (hp.get (i := 0) rfl) TTok rfl (wb_len _), ?_⟩
    conv => whnf
    refine hp.kstA TTok rfl 1 rfl (wb_len _) (wb_one _) (wb_len _) fun w hp => ?_
    try simp only [List.set_cons_zero, List.set_cons_succ, EV.val] at hp
    conv => whnf
    refine hKq _ _ _ (V.Sub.refl _) ?_
    clear hKq Kq
    conv => whnf
    exact ⟨_, Blk.lvN (hp.get (i := 1) rfl) TTok rfl (wb_len _), rfl, hp.ext⟩
theorem rotl_bit (x r i : Nat) (hx : x < M32) (hr : r < 32) : (rotl x r).testBit i = if i < r then x.testBit (i + 32 - r) else (decide (i - r < 32 - r) && x.testBit (i - r)) := by
  have hx : x < 2 ^ 32 := hx
  have h1 : x * 2 ^ r % 4294967296 = 2 ^ r * (x % 2 ^ (32 - r)) := by
    rw [Nat.mul_comm x, show (4294967296 : Nat) = 2 ^ r * 2 ^ (32 - r) by rw [← Nat.pow_add, show r + (32 - r) = 32 by omega], Nat.mul_mod_mul_left]
  have h2 : x / 2 ^ (32 - r) < 2 ^ r := by
    rw [Nat.div_lt_iff_lt_mul (Nat.pow_pos (by decide)), ← Nat.pow_add, show r + (32 - r) = 32 by omega]
    exact hx
  unfold rotl
  rw [h1, Nat.testBit_two_pow_mul_add _ h2, Nat.testBit_mod_two_pow]
  by_cases h : i < r
  · rw [if_pos h, if_pos h, Nat.testBit_div_two_pow]; congr 1; omega
  · rw [if_neg h, if_neg h]
theorem wd_rotl (n k : Nat) (hn : n < M32) (hk : k < 32) (h0 : 0 < k) : (wb fun x => n.testBit (31 - (x + 32 - k) % 32)) = wd (rotl n (32 - k)) := by
  refine wb_congr fun i hi => ?_
  rw [rotl_bit n (32 - k) (31 - i) hn (by omega)]
  by_cases h : 31 - i < 32 - k
  · rw [if_pos h]; congr 1; omega
  · rw [if_neg h, decide_eq_true (by omega), Bool.true_and]; congr 1; omega
theorem turned_p (n k : Nat) (hn : n < M32) (hk : k < 32) (h0 : 0 < k) : PureF Try.prog 83 #[wV n, .int .i64 k] (wV (rotl n (32 - k))) := by
  have h := turned_raw n k hk
  rw [wd_rotl n k hn hk h0] at h
  exact h
theorem neq_bool2 (xo yo : Operand) (a b : Bool) (w : World) : (do eqGuard .neq 4 xo yo (.bool a) (.bool b); binOp .neq 4 (.bool a) (.bool b) : Sem Value).run Try.prog w = .ok (.bool (a ^^ b)) w := by
  cases a <;> cases b <;> kernel_rfl
set_option maxHeartbeats 1600000 in
theorem xor_p (a b : Nat) : PureF Try.prog 85 #[wV a, wV b] (wV (a ^^^ b)) := by
  unfold wV
  have hF : ∀ i, (fun i => (a ^^^ b).testBit (31 - i)) i = (a.testBit (31 - i) ^^ b.testBit (31 - i)) := fun i => Nat.testBit_xor _ _ _
  obtain ⟨F, hFd⟩ : ∃ F : Nat → Bool, F = fun i => (a ^^^ b).testBit (31 - i) := ⟨_, rfl⟩
  have hW : wd (a ^^^ b) = wb F := by rw [hFd]; rfl
  rw [hW]
  rw [← hFd] at hF
  first | refine v_pure TTok FFok Try.func85 rfl rfl fun w0 => ?_ | refine v_pure (args := []) TTok FFok Try.func85 rfl rfl fun w0 => ?_
  conv => whnf
  refine VSeq.mk fun Kq hKq => ?_
  conv => whnf
  have hp := Hp.nil w0
  refine hp.kbox (wd a) rfl fun q1 w hp hx => ?_
  conv => whnf
  refine hp.kbox (wd b) rfl fun q2 w hp hx => ?_
  conv => whnf
  refine hp.kalloc z126 fun q3 w hp hx => ?_
  conv => whnf
  refine hKq _ _ _ (V.Sub.refl _) ?_
  clear hKq Kq
  conv => whnf
  refine VSeq.mk fun Kq hKq => ?_
  conv => whnf
  refine hp.kalloc z126 fun q4 w hp hx => ?_
  conv => whnf
  refine hKq _ _ _ (V.Sub.refl _) ?_
  clear hKq Kq
  conv => whnf
  refine VSeq.mk fun Kq hKq => ?_
  conv => whnf
  refine VSeq.mk fun Kq hKq => ?_
  conv => whnf
  refine hKq _ _ _ (V.Sub.refl _) ?_
  clear hKq Kq
  conv => whnf
  have hp : HpM [] w0 w [blk q4 (wb (upL F 0)) 126, blk q3 (wb fun _ => false) 126, blk q2 (wd b) 126, blk q1 (wd a) 126] := by rw [upL_zero]; exact hp
  refine ⟨fun mm e w' => ∃ (j : Nat), mm + j = 32 ∧ e = [(2, .v (.pointer (some ⟨q1, 0, none⟩))), (3, .v (.pointer (some ⟨q2, 0, none⟩))), (4, .v (.pointer (some ⟨q3, 0, none⟩))), (5, .v (.pointer (some ⟨q4, 0, none⟩))), (6, .v (.int .i64 j))] ∧ HpM [] w0 w' [blk q4 (wb (upL F j)) 126, blk q3 (wb fun _ => false) 126, blk q2 (wd b) 126, blk q1 (wd a) 126],
      ⟨32, _, ⟨0, by omega, rfl, hp⟩, sub_cons rfl (sub_cons rfl (sub_cons rfl (sub_cons rfl (sub_cons rfl sub_nil))))⟩, ?_⟩
  clear hp hx
  repeat clear hp
  rintro mm _ w ⟨j, hmm, rfl, hp⟩
  conv => whnf
  refine VSeq.mk fun Kq hKq => ?_
  conv => whnf
  refine VSeq.mk fun Kq hKq => ?_
  conv => whnf
  refine hKq _ _ _ (V.Sub.refl _) ?_
  clear hKq Kq
  conv => whnf
  refine ⟨fun hlt => ?_, fun hlt => ?_⟩
  · have hlt := of_decide_eq_true hlt
    conv => whnf
    refine hKq _ _ _ (V.Sub.refl _) ?_
    clear hKq Kq
    conv => whnf
    refine VSeq.mk fun Kq hKq => ?_
    conv => whnf
    have hs := upL_set F j (F j) rfl
    have hFj := hF j
    refine v_mix TTok FFok mixed 9 [(0, false), (1, false), (2, false), (3, false), (4, false), (5, false), (6, false), (7, false), (8, false)] (by kernel_rfl) ?_
    conv => whnf
    refine ⟨j, ⟨by first | rfl | omega, by omega⟩, ?_⟩
    conv => whnf
    refine ⟨_, fun w' hx' => Blk.ld (Blk.ext (hp.get (i := 3) rfl) hx') TTok rfl (wd_get a j (by omega)), ?_⟩
    conv => whnf
    refine ⟨j, ⟨by first | rfl | omega, by omega⟩, ?_⟩
    conv => whnf
    refine ⟨_, fun w' hx' => Blk.ld (Blk.ext (hp.get (i := 2) rfl) hx') TTok rfl (wd_get b j (by omega)), ?_⟩
    conv => whnf
    refine ⟨_, fun w1 _ => neq_bool2 _ _ _ _ w1, ?_⟩
    conv => whnf
    refine ⟨j, ⟨by first | rfl | omega, by omega⟩, ?_⟩
    conv => whnf
    intro w hx
    try (have hp := hp.call hx)
    conv => whnf
    rw [← hFj]
    refine hp.kst1 (off := j) TTok (by rfl) 0 (by rfl) (by rfl) (by rfl) (by rw [wb_len]; omega) fun w hp => ?_
    try simp only [List.set_cons_zero, List.set_cons_succ, EV.val] at hp
    conv => whnf
    refine hKq _ _ _ (V.Sub.refl _) ?_
    clear hKq Kq
    conv => whnf
    refine And.intro (by omega) ?_
    conv => whnf
    rw [hs] at hp
    exact ⟨mm - 1, _, by omega, ⟨j + 1, by omega, rfl, hp⟩, sub_cons rfl (sub_cons rfl (sub_cons rfl (sub_cons rfl (sub_cons rfl sub_nil))))⟩
  · have hlt := of_decide_eq_false hlt
    conv => whnf
    clear hKq Kq
    refine hKq _ _ _ (V.Sub.refl _) ?_
    clear hKq Kq
    conv => whnf
    refine VSeq.mk fun Kq hKq => ?_
    conv => whnf
    obtain rfl : j = 32 := by omega
    rw [upL_all] at hp
    refine ⟨_, _, Blk.ldN (hp.get (i := 0) rfl) TTok rfl (wb_len _), ?_⟩
    conv => whnf
    refine hp.kstA TTok rfl 1 rfl (wb_len _) (wb_one _) (wb_len _) fun w hp => ?_
    try simp only [List.set_cons_zero, List.set_cons_succ, EV.val] at hp
    conv => whnf
    refine hKq _ _ _ (V.Sub.refl _) ?_
    clear hKq Kq
    conv => whnf
    exact ⟨_, Blk.lvN (hp.get (i := 1) rfl) TTok rfl (wb_len _), rfl, hp.ext⟩
set_option maxHeartbeats 1600000 in
theorem and_p (a b : Nat) : PureF Try.prog 86 #[wV a, wV b] (wV (a &&& b)) := by
  unfold wV
  have hF : ∀ i, (fun i => (a &&& b).testBit (31 - i)) i = (a.testBit (31 - i) && b.testBit (31 - i)) := fun i => Nat.testBit_and _ _ _
  obtain ⟨F, hFd⟩ : ∃ F : Nat → Bool, F = fun i => (a &&& b).testBit (31 - i) := ⟨_, rfl⟩
  have hW : wd (a &&& b) = wb F := by rw [hFd]; rfl
  rw [hW]
  rw [← hFd] at hF
  first | refine v_pure TTok FFok Try.func86 rfl rfl fun w0 => ?_ | refine v_pure (args := []) TTok FFok Try.func86 rfl rfl fun w0 => ?_
  conv => whnf
  refine VSeq.mk fun Kq hKq => ?_
  conv => whnf
  have hp := Hp.nil w0
  refine hp.kbox (wd a) rfl fun q1 w hp hx => ?_
  conv => whnf
  refine hp.kbox (wd b) rfl fun q2 w hp hx => ?_
  conv => whnf
  refine hp.kalloc z126 fun q3 w hp hx => ?_
  conv => whnf
  refine hKq _ _ _ (V.Sub.refl _) ?_
  clear hKq Kq
  conv => whnf
  refine VSeq.mk fun Kq hKq => ?_
  conv => whnf
  refine hp.kalloc z126 fun q4 w hp hx => ?_
  conv => whnf
  refine hKq _ _ _ (V.Sub.refl _) ?_
  clear hKq Kq
  conv => whnf
  refine VSeq.mk fun Kq hKq => ?_
  conv => whnf
  refine VSeq.mk fun Kq hKq => ?_
  conv => whnf
  refine hKq _ _ _ (V.Sub.refl _) ?_
  clear hKq Kq
  conv => whnf
  have hp : HpM [] w0 w [blk q4 (wb (upL F 0)) 126, blk q3 (wb fun _ => false) 126, blk q2 (wd b) 126, blk q1 (wd a) 126] := by rw [upL_zero]; exact hp
  refine ⟨fun mm e w' => ∃ (j : Nat), mm + j = 32 ∧ e = [(2, .v (.pointer (some ⟨q1, 0, none⟩))), (3, .v (.pointer (some ⟨q2, 0, none⟩))), (4, .v (.pointer (some ⟨q3, 0, none⟩))), (5, .v (.pointer (some ⟨q4, 0, none⟩))), (6, .v (.int .i64 j))] ∧ HpM [] w0 w' [blk q4 (wb (upL F j)) 126, blk q3 (wb fun _ => false) 126, blk q2 (wd b) 126, blk q1 (wd a) 126],
      ⟨32, _, ⟨0, by omega, rfl, hp⟩, sub_cons rfl (sub_cons rfl (sub_cons rfl (sub_cons rfl (sub_cons rfl sub_nil))))⟩, ?_⟩
  clear hp hx
  repeat clear hp
  rintro mm _ w ⟨j, hmm, rfl, hp⟩
  conv => whnf
  refine VSeq.mk fun Kq hKq => ?_
  conv => whnf
  refine VSeq.mk fun Kq hKq => ?_
  conv => whnf
  refine hKq _ _ _ (V.Sub.refl _) ?_
  clear hKq Kq
  conv => whnf
  refine ⟨fun hlt => ?_, fun hlt => ?_⟩
  · have hlt := of_decide_eq_true hlt
    conv => whnf
    refine hKq _ _ _ (V.Sub.refl _) ?_
    clear hKq Kq
    conv => whnf
    refine VSeq.mk fun Kq hKq => ?_
    conv => whnf
    refine VSeq.mk fun Kq hKq => ?_
    conv => whnf
    have hs := upL_set F j (F j) rfl
    have hFj := hF j
    refine ⟨j, ⟨by first | rfl | omega, by omega⟩, ?_⟩
    conv => whnf
    refine ⟨_, _, Blk.ld (hp.get (i := 3) rfl) TTok rfl (wd_get a j (by omega)), ?_⟩
    conv => whnf
    refine hKq _ _ _ (V.Sub.refl _) ?_
    clear hKq Kq
    conv => whnf
    cases ha : a.testBit (31 - j) with
    | true =>
      rw [ha, Bool.true_and] at hFj
      refine And.intro (fun _ => ?_) (fun h => by cases h)
      conv => whnf
      refine ⟨j, ⟨by first | rfl | omega, by omega⟩, ?_⟩
      conv => whnf
      refine ⟨_, _, Blk.ld (hp.get (i := 2) rfl) TTok rfl (wd_get b j (by omega)), ?_⟩
      conv => whnf
      rw [← hFj]
      refine ⟨j, ⟨by first | rfl | omega, by omega⟩, ?_⟩
      conv => whnf
      refine hp.kst1 (off := j) TTok (by rfl) 0 (by rfl) (by rfl) (by rfl) (by rw [wb_len]; omega) fun w hp => ?_
      try simp only [List.set_cons_zero, List.set_cons_succ, EV.val] at hp
      conv => whnf
      refine hKq _ _ _ (V.Sub.refl _) ?_
      clear hKq Kq
      conv => whnf
      refine And.intro (by omega) ?_
      conv => whnf
      rw [hs] at hp
      exact ⟨mm - 1, _, by omega, ⟨j + 1, by omega, rfl, hp⟩, sub_cons rfl (sub_cons rfl (sub_cons rfl (sub_cons rfl (sub_cons rfl sub_nil))))⟩
    | false =>
      rw [ha, Bool.false_and] at hFj
      refine And.intro (fun h => by cases h) (fun _ => ?_)
      conv => whnf
      refine ⟨j, ⟨by first | rfl | omega, by omega⟩, ?_⟩
      conv => whnf
      refine hp.kst1 (off := j) TTok (by rfl) 0 (by rfl) (by rfl) (by rfl) (by rw [wb_len]; omega) fun w hp => ?_
      try simp only [List.set_cons_zero, List.set_cons_succ, EV.val] at hp
      conv => whnf
      refine hKq _ _ _ (V.Sub.refl _) ?_
      clear hKq Kq
      conv => whnf
      refine And.intro (by omega) ?_
      conv => whnf
      rw [hFj] at hs
      have hp : HpM [] w0 w [blk q4 ((wb (upL F j)).set j (.bool false)) 126, blk q3 (wb fun _ => false) 126, blk q2 (wd b) 126, blk q1 (wd a) 126] := hp
      rw [hs] at hp
      exact ⟨mm - 1, _, by omega, ⟨j + 1, by omega, rfl, hp⟩, sub_cons rfl (sub_cons rfl (sub_cons rfl (sub_cons rfl (sub_cons rfl sub_nil))))⟩
  · have hlt := of_decide_eq_false hlt
    conv => whnf
    clear hKq Kq
    refine hKq _ _ _ (V.Sub.refl _) ?_
    clear hKq Kq
    conv => whnf
    refine VSeq.mk fun Kq hKq => ?_
    conv => whnf
    obtain rfl : j = 32 := by omega
    rw [upL_all] at hp
    refine ⟨_, _, Blk.ldN (hp.get (i := 0) rfl) TTok rfl (wb_len _), ?_⟩
    conv => whnf
    refine hp.kstA TTok rfl 1 rfl (wb_len _) (wb_one _) (wb_len _) fun w hp => ?_
    try simp only [List.set_cons_zero, List.set_cons_succ, EV.val] at hp
    conv => whnf
    refine hKq _ _ _ (V.Sub.refl _) ?_
    clear hKq Kq
    conv => whnf
    exact ⟨_, Blk.lvN (hp.get (i := 1) rfl) TTok rfl (wb_len _), rfl, hp.ext⟩
set_option maxHeartbeats 1600000 in
theorem not_p (a : Nat) (hn : a < M32) : PureF Try.prog 87 #[wV a] (wV (4294967295 - a)) := by
  unfold wV
  have hF : ∀ i, i < 32 → (fun i => (4294967295 - a).testBit (31 - i)) i = !(a.testBit (31 - i)) := fun i hi => by
    show (4294967295 - a).testBit (31 - i) = _
    rw [show 4294967295 - a = 2 ^ 32 - (a + 1) by have hn : a < 4294967296 := hn; omega, Nat.testBit_two_pow_sub_succ hn, decide_eq_true (by omega), Bool.true_and]
  obtain ⟨F, hFd⟩ : ∃ F : Nat → Bool, F = fun i => (4294967295 - a).testBit (31 - i) := ⟨_, rfl⟩
  have hW : wd (4294967295 - a) = wb F := by rw [hFd]; rfl
  rw [hW]
  rw [← hFd] at hF
  first | refine v_pure TTok FFok Try.func87 rfl rfl fun w0 => ?_ | refine v_pure (args := []) TTok FFok Try.func87 rfl rfl fun w0 => ?_
  conv => whnf
  refine VSeq.mk fun Kq hKq => ?_
  conv => whnf
  have hp := Hp.nil w0
  refine hp.kbox (wd a) rfl fun q1 w hp hx => ?_
  conv => whnf
  refine hp.kalloc z126 fun q2 w hp hx => ?_
  conv => whnf
  refine hKq _ _ _ (V.Sub.refl _) ?_
  clear hKq Kq
  conv => whnf
  refine VSeq.mk fun Kq hKq => ?_
  conv => whnf
  refine hp.kalloc z126 fun q3 w hp hx => ?_
  conv => whnf
  refine hKq _ _ _ (V.Sub.refl _) ?_
  clear hKq Kq
  conv => whnf
  refine VSeq.mk fun Kq hKq => ?_
  conv => whnf
  refine VSeq.mk fun Kq hKq => ?_
  conv => whnf
  refine hKq _ _ _ (V.Sub.refl _) ?_
  clear hKq Kq
  conv => whnf
  have hp : HpM [] w0 w [blk q3 (wb (upL F 0)) 126, blk q2 (wb fun _ => false) 126, blk q1 (wd a) 126] := by rw [upL_zero]; exact hp
  refine ⟨fun mm e w' => ∃ (j : Nat), mm + j = 32 ∧ e = [(1, .v (.pointer (some ⟨q1, 0, none⟩))), (2, .v (.pointer (some ⟨q2, 0, none⟩))), (3, .v (.pointer (some ⟨q3, 0, none⟩))), (4, .v (.int .i64 j))] ∧ HpM [] w0 w' [blk q3 (wb (upL F j)) 126, blk q2 (wb fun _ => false) 126, blk q1 (wd a) 126],
      ⟨32, _, ⟨0, by omega, rfl, hp⟩, sub_cons rfl (sub_cons rfl (sub_cons rfl (sub_cons rfl sub_nil)))⟩, ?_⟩
  clear hp hx
  repeat clear hp
  rintro mm _ w ⟨j, hmm, rfl, hp⟩
  conv => whnf
  refine VSeq.mk fun Kq hKq => ?_
  conv => whnf
  refine VSeq.mk fun Kq hKq => ?_
  conv => whnf
  refine hKq _ _ _ (V.Sub.refl _) ?_
  clear hKq Kq
  conv => whnf
  refine ⟨fun hlt => ?_, fun hlt => ?_⟩
  · have hlt := of_decide_eq_true hlt
    conv => whnf
    refine hKq _ _ _ (V.Sub.refl _) ?_
    clear hKq Kq
    conv => whnf
    refine VSeq.mk fun Kq hKq => ?_
    conv => whnf
    have hs := upL_set F j (F j) rfl
    have hFj := hF j (by omega)
    refine ⟨j, ⟨by first | rfl | omega, by omega⟩, ?_⟩
    conv => whnf
    refine ⟨_, _, Blk.ld (hp.get (i := 2) rfl) TTok rfl (wd_get a j (by omega)), ?_⟩
    conv => whnf
    rw [← hFj]
    refine ⟨j, ⟨by first | rfl | omega, by omega⟩, ?_⟩
    conv => whnf
    refine hp.kst1 (off := j) TTok (by rfl) 0 (by rfl) (by rfl) (by rfl) (by rw [wb_len]; omega) fun w hp => ?_
    try simp only [List.set_cons_zero, List.set_cons_succ, EV.val] at hp
    conv => whnf
    refine hKq _ _ _ (V.Sub.refl _) ?_
    clear hKq Kq
    conv => whnf
    refine And.intro (by omega) ?_
    conv => whnf
    rw [hs] at hp
    exact ⟨mm - 1, _, by omega, ⟨j + 1, by omega, rfl, hp⟩, sub_cons rfl (sub_cons rfl (sub_cons rfl (sub_cons rfl sub_nil)))⟩
  · have hlt := of_decide_eq_false hlt
    conv => whnf
    clear hKq Kq
    refine hKq _ _ _ (V.Sub.refl _) ?_
    clear hKq Kq
    conv => whnf
    refine VSeq.mk fun Kq hKq => ?_
    conv => whnf
    obtain rfl : j = 32 := by omega
    rw [upL_all] at hp
    refine ⟨_, _, Blk.ldN (hp.get (i := 0) rfl) TTok rfl (wb_len _), ?_⟩
    conv => whnf
    refine hp.kstA TTok rfl 1 rfl (wb_len _) (wb_one _) (wb_len _) fun w hp => ?_
    try simp only [List.set_cons_zero, List.set_cons_succ, EV.val] at hp
    conv => whnf
    refine hKq _ _ _ (V.Sub.refl _) ?_
    clear hKq Kq
    conv => whnf
    exact ⟨_, Blk.lvN (hp.get (i := 1) rfl) TTok rfl (wb_len _), rfl, hp.ext⟩
set_option maxHeartbeats 1600000 in
theorem three_p (a b c : Nat) : PureF Try.prog 82 #[wV a, wV b, wV c] (wV (a ^^^ b ^^^ c)) := by
  have h1 := xor_p a b
  have h2 := xor_p (a ^^^ b) c
  unfold wV at h1 h2 ⊢
  first | refine v_pure TTok FFok Try.func82 rfl rfl fun w0 => ?_ | refine v_pure (args := []) TTok FFok Try.func82 rfl rfl fun w0 => ?_
  conv => whnf
  refine VSeq.mk fun Kq hKq => ?_
  conv => whnf
  have hp := Hp.nil w0
  refine hp.kbox (wd a) rfl fun q1 w hp hx => ?_
  conv => whnf
  refine hp.kbox (wd b) rfl fun q2 w hp hx => ?_
  conv => whnf
  refine hp.kbox (wd c) rfl fun q3 w hp hx => ?_
  conv => whnf
  refine hp.kalloc z126 fun q4 w hp hx => ?_
  conv => whnf
  refine hKq _ _ _ (V.Sub.refl _) ?_
  clear hKq Kq
  conv => whnf
  refine VSeq.mk fun Kq hKq => ?_
  conv => whnf
  refine v_mix TTok FFok mixed 5 [(0, false), (1, false), (2, false), (3, false), (4, false)] (by kernel_rfl) ?_
  conv => whnf
  refine ⟨_, fun w' hx' => Blk.ldN (Blk.ext (hp.get (i := 3) rfl) hx') TTok rfl (wd_len _), ?_⟩
  conv => whnf
  refine ⟨_, fun w' hx' => Blk.ldN (Blk.ext (hp.get (i := 2) rfl) hx') TTok rfl (wd_len _), ?_⟩
  conv => whnf
  first | refine PureF.quiet (h1) ?_ | refine PureF.quietE (h1) ?_
  conv => whnf
  refine ⟨_, fun w' hx' => Blk.ldN (Blk.ext (hp.get (i := 1) rfl) hx') TTok rfl (wd_len _), ?_⟩
  conv => whnf
  first | refine PureF.quiet (h2) ?_ | refine PureF.quietE (h2) ?_
  conv => whnf
  intro w hx
  try (have hp := hp.call hx)
  conv => whnf
  refine hp.kstA TTok rfl 0 rfl (wd_len _) (wd_one _) (by rfl) fun w hp => ?_
  try simp only [List.set_cons_zero, List.set_cons_succ, EV.val] at hp
  conv => whnf
  refine hKq _ _ _ (V.Sub.refl _) ?_
  clear hKq Kq
  conv => whnf
  exact ⟨_, Blk.lvN (hp.get (i := 0) rfl) TTok rfl (wd_len _), rfl, hp.ext⟩
theorem sum_p (a b c d e : Nat) (ha : a < M32) (hb : b < M32) (hc : c < M32) (hd : d < M32) (he : e < M32) : PureF Try.prog 80 #[.int .i64 a, .int .i64 b, .int .i64 c, .int .i64 d, .int .i64 e] (.int .i64 ((a + b + c + d + e) % M32 : Nat)) := by
  have ha : a < 4294967296 := ha
  have hb : b < 4294967296 := hb
  have hc : c < 4294967296 := hc
  have hd : d < 4294967296 := hd
  have he : e < 4294967296 := he
  first | refine v_pure TTok FFok Try.func80 rfl rfl fun w0 => ?_ | refine v_pure (args := []) TTok FFok Try.func80 rfl rfl fun w0 => ?_
  conv => whnf
  refine VSeq.mk fun Kq hKq => ?_
  conv => whnf
  refine hKq _ _ _ (V.Sub.refl _) ?_
  clear hKq Kq
  conv => whnf
  refine VSeq.mk fun Kq hKq => ?_
  conv => whnf
  refine And.intro (by omega) ?_
  conv => whnf
  refine And.intro (by omega) ?_
  conv => whnf
  refine And.intro (by omega) ?_
  conv => whnf
  refine And.intro (by omega) ?_
  conv => whnf
  refine And.intro (by omega) ?_
  conv => whnf
  refine hKq _ _ _ (V.Sub.refl _) ?_
  clear hKq Kq
  conv => whnf
  have hp := Hp.nil w0
  exact ⟨rfl, hp.ext⟩
end Go.Proofs.Ytebmmfeegjgbeaa
