/- Chapter 12: the reference's words; watches as values. -/
/- Chapter 12: watches as values; the guard's check. -/
/- Chapter 12: gaps, starts, times: the guard's methods. -/
/- Maps of the call's own, keyed by integers. Own work. No program is named here. -/
/- Chapter 12: questions and answers. -/
import Derived.Test.YtgkhcgiggjijlaaGreatGH07
import Derived.Test.YtgkhcgiggjijlaaGreatGH05
import Derived.MapKept
namespace Go.Proofs.YtgkhcgiggjijlaaGreat
set_option linter.unusedSimpArgs false
set_option linter.unusedVariables false
set_option maxRecDepth 100000
open Go.RowKit V
set_option maxHeartbeats 1600000
theorem word12_p (s : ByteArray) (hs : SzS s) : PureF Tryz.prog 38 #[.string s] (.bool (wordB s)) := by
 have hsz : s.size ≤ 9223372036854775807 := hs
 first | refine v_pure TTok FFok Tryz.func38 rfl rfl fun w0 => ?_ | refine v_pure (args := []) TTok FFok Tryz.func38 rfl rfl fun w0 => ?_
 conv => whnf
 refine VSeq.mk fun Kq hKq => ?_
 conv => whnf
 refine hKq _ _ _ (.refl _) ?_
 clear hKq Kq
 conv => whnf
 refine VSeq.mk fun Kq hKq => ?_
 conv => whnf
 refine VSeq.mk fun Kq hKq => ?_
 conv => whnf
 refine hKq _ _ _ (.refl _) ?_
 clear hKq Kq
 conv => whnf
 have hp := Hp.nil w0
 refine ⟨fun mm e w' => ∃ (i : Nat), mm + i = s.size ∧ e = [(0, .v (.string s)), (3, .v (.int .i64 i))] ∧ (∀ j, j < i → wchB (byt s j) = true) ∧ HpM [] w0 w' [],
  ⟨s.size, _, ⟨0, by omega, rfl, fun j hj => absurd hj (Nat.not_lt_zero j), hp⟩, sub_cons rfl (sub_cons rfl sub_nil)⟩, ?_⟩
 rintro mm _ w ⟨i, hmm, rfl, hall, hp⟩
 conv => whnf
 refine VSeq.mk fun Kq hKq => ?_
 conv => whnf
 refine VSeq.mk fun Kq hKq => ?_
 conv => whnf
 refine hKq _ _ _ (.refl _) ?_
 clear hKq Kq
 conv => whnf
 refine ⟨fun hlt => ?_, fun hlt => ?_⟩
 ·have hlt := of_decide_eq_true hlt
  conv => whnf
  refine hKq _ _ _ (.refl _) ?_
  clear hKq Kq
  conv => whnf
  refine VSeq.mk fun Kq hKq => ?_
  conv => whnf
  refine VSeq.mk fun Kq hKq => ?_
  conv => whnf
  have hi : i < s.size := by omega
  refine ⟨i, ⟨by first | rfl | omega, by omega⟩, ?_⟩
  conv => whnf
  refine hKq _ _ _ (.refl _) ?_
  clear hKq Kq
  conv => whnf
  refine VSeq.mk fun Kq hKq => ?_
  conv => whnf
  refine VSeq.mk fun Kq hKq => ?_
  conv => whnf
  refine hKq _ _ _ (.refl _) ?_
  clear hKq Kq
  conv => whnf
  refine VSeq.mk fun Kq hKq => ?_
  conv => whnf
  have hbt : wchB (byt s i) = true → (∃ (i' : Nat), mm - 1 + i' = s.size ∧ [(0, EV.v (.string s)), (3, .v (.int .i64 (i + 1 : Nat)))] = [(0, EV.v (.string s)), (3, .v (.int .i64 i'))] ∧ (∀ j, j < i' → wchB (byt s j) = true) ∧ HpM [] w0 w []) := fun hc =>
   ⟨i + 1, by omega, rfl, fun j hj => by
    rcases Nat.lt_or_ge j i with h | h
    ·exact hall j h
    ·have : j = i := by omega
     rw [this]; exact hc, hp⟩
  have hbf := fun hc => wordB_f hi hc
  obtain ⟨c, hc⟩ : ∃ c, byt s i = c := ⟨_, rfl⟩
  rw [hc] at hbt hbf ⊢
  clear hall hc
  (refine ⟨fun hd => ?_, fun hd => ?_⟩ <;> (try simp only [Bool.not_eq_true', Bool.not_eq_false', decide_eq_true_eq, decide_eq_false_iff_not, ne_eq, Classical.not_not] at hd) <;> (conv => whnf))
  (refine hKq _ _ _ (.refl _) ?_; clear hKq Kq; conv => whnf)
  (refine ⟨fun hd => ?_, fun hd => ?_⟩ <;> (try simp only [Bool.not_eq_true', Bool.not_eq_false', decide_eq_true_eq, decide_eq_false_iff_not, ne_eq, Classical.not_not] at hd) <;> (conv => whnf))
  (refine hKq _ _ _ (.refl _) ?_; clear hKq Kq; conv => whnf)
  (refine VSeq.mk fun Kq hKq => ?_; conv => whnf)
  (refine VSeq.mk fun Kq hKq => ?_; conv => whnf)
  (refine hKq _ _ _ (.refl _) ?_; clear hKq Kq; conv => whnf)
  (refine And.intro (fun _ => ?_) (fun h => absurd (by first | rfl | assumption | omega | decide) (of_decide_eq_false h)); conv => whnf)
  (refine hKq _ _ _ (.refl _) ?_; clear hKq Kq; conv => whnf)
  (refine VSeq.mk fun Kq hKq => ?_; conv => whnf)
  (refine VSeq.mk fun Kq hKq => ?_; conv => whnf)
  (refine hKq _ _ _ (.refl _) ?_; clear hKq Kq; conv => whnf)
  (refine VSeq.mk fun Kq hKq => ?_; conv => whnf)
  (refine hKq _ _ _ (.refl _) ?_; clear hKq Kq; conv => whnf)
  (refine VSeq.mk fun Kq hKq => ?_; conv => whnf)
  (refine hKq _ _ _ (.refl _) ?_; clear hKq Kq; conv => whnf)
  (refine hKq _ _ _ (.refl _) ?_; clear hKq Kq; conv => whnf)
  (refine hKq _ _ _ (.refl _) ?_; clear hKq Kq; conv => whnf)
  (refine Or.inl (And.intro (by first | omega | decide) ?_); conv => whnf)
  rotate_left
  (refine And.intro (fun _ => ?_) (fun h => absurd (by first | rfl | assumption | omega | decide) (of_decide_eq_false h)); conv => whnf)
  (refine hKq _ _ _ (.refl _) ?_; clear hKq Kq; conv => whnf)
  (refine VSeq.mk fun Kq hKq => ?_; conv => whnf)
  (refine VSeq.mk fun Kq hKq => ?_; conv => whnf)
  (refine hKq _ _ _ (.refl _) ?_; clear hKq Kq; conv => whnf)
  (refine And.intro (fun _ => ?_) (fun h => absurd (by first | rfl | assumption | omega | decide) (of_decide_eq_false h)); conv => whnf)
  (refine hKq _ _ _ (.refl _) ?_; clear hKq Kq; conv => whnf)
  (refine VSeq.mk fun Kq hKq => ?_; conv => whnf)
  (refine VSeq.mk fun Kq hKq => ?_; conv => whnf)
  (refine hKq _ _ _ (.refl _) ?_; clear hKq Kq; conv => whnf)
  (refine VSeq.mk fun Kq hKq => ?_; conv => whnf)
  (refine And.intro (fun _ => ?_) (fun h => absurd (of_decide_eq_true ((Bool.not_eq_false' _).mp h)) (by first | (intro h2; exact absurd rfl h2) | omega | decide)); conv => whnf)
  (refine hKq _ _ _ (.refl _) ?_; clear hKq Kq; conv => whnf)
  (refine VSeq.mk fun Kq hKq => ?_; conv => whnf)
  (refine And.intro (fun _ => ?_) (fun h => absurd (of_decide_eq_true ((Bool.not_eq_false' _).mp h)) (by first | (intro h2; exact absurd rfl h2) | omega | decide)); conv => whnf)
  (refine hKq _ _ _ (.refl _) ?_; clear hKq Kq; conv => whnf)
  (refine And.intro (fun _ => ?_) (fun h => absurd (by first | rfl | assumption | omega | decide) (of_decide_eq_false h)); conv => whnf)
  (refine hKq _ _ _ (.refl _) ?_; clear hKq Kq; conv => whnf)
  (refine And.intro (fun _ => ?_) (fun h => absurd (by first | rfl | assumption | omega | decide) (of_decide_eq_false h)); conv => whnf)
  (refine VSeq.mk fun Kq hKq => ?_; conv => whnf)
  (refine hKq _ _ _ (.refl _) ?_; clear hKq Kq; conv => whnf)
  rotate_left
  (refine hKq _ _ _ (.refl _) ?_; clear hKq Kq; conv => whnf)
  (refine ⟨fun hd => ?_, fun hd => ?_⟩ <;> (try simp only [Bool.not_eq_true', Bool.not_eq_false', decide_eq_true_eq, decide_eq_false_iff_not, ne_eq, Classical.not_not] at hd) <;> (conv => whnf))
  (refine hKq _ _ _ (.refl _) ?_; clear hKq Kq; conv => whnf)
  (refine VSeq.mk fun Kq hKq => ?_; conv => whnf)
  (refine VSeq.mk fun Kq hKq => ?_; conv => whnf)
  (refine hKq _ _ _ (.refl _) ?_; clear hKq Kq; conv => whnf)
  (refine And.intro (fun _ => ?_) (fun h => absurd (by first | rfl | assumption | omega | decide) (of_decide_eq_false h)); conv => whnf)
  (refine hKq _ _ _ (.refl _) ?_; clear hKq Kq; conv => whnf)
  (refine VSeq.mk fun Kq hKq => ?_; conv => whnf)
  (refine VSeq.mk fun Kq hKq => ?_; conv => whnf)
  (refine hKq _ _ _ (.refl _) ?_; clear hKq Kq; conv => whnf)
  (refine VSeq.mk fun Kq hKq => ?_; conv => whnf)
  (refine ⟨fun hd => ?_, fun hd => ?_⟩ <;> (try simp only [Bool.not_eq_true', Bool.not_eq_false', decide_eq_true_eq, decide_eq_false_iff_not, ne_eq, Classical.not_not] at hd) <;> (conv => whnf))
  (refine hKq _ _ _ (.refl _) ?_; clear hKq Kq; conv => whnf)
  (refine VSeq.mk fun Kq hKq => ?_; conv => whnf)
  (refine And.intro (fun _ => ?_) (fun h => absurd (of_decide_eq_true ((Bool.not_eq_false' _).mp h)) (by first | (intro h2; exact absurd rfl h2) | omega | decide)); conv => whnf)
  (refine hKq _ _ _ (.refl _) ?_; clear hKq Kq; conv => whnf)
  (refine And.intro (fun _ => ?_) (fun h => absurd (by first | rfl | assumption | omega | decide) (of_decide_eq_false h)); conv => whnf)
  (refine hKq _ _ _ (.refl _) ?_; clear hKq Kq; conv => whnf)
  (refine And.intro (fun _ => ?_) (fun h => absurd (by first | rfl | assumption | omega | decide) (of_decide_eq_false h)); conv => whnf)
  (refine VSeq.mk fun Kq hKq => ?_; conv => whnf)
  (refine hKq _ _ _ (.refl _) ?_; clear hKq Kq; conv => whnf)
  rotate_left
  (refine hKq _ _ _ (.refl _) ?_; clear hKq Kq; conv => whnf)
  (refine VSeq.mk fun Kq hKq => ?_; conv => whnf)
  (refine hKq _ _ _ (.refl _) ?_; clear hKq Kq; conv => whnf)
  (refine hKq _ _ _ (.refl _) ?_; clear hKq Kq; conv => whnf)
  (refine hKq _ _ _ (.refl _) ?_; clear hKq Kq; conv => whnf)
  (refine Or.inl (And.intro (by first | omega | decide) ?_); conv => whnf)
  rotate_left
  (refine hKq _ _ _ (.refl _) ?_; clear hKq Kq; conv => whnf)
  (refine VSeq.mk fun Kq hKq => ?_; conv => whnf)
  (refine VSeq.mk fun Kq hKq => ?_; conv => whnf)
  (refine hKq _ _ _ (.refl _) ?_; clear hKq Kq; conv => whnf)
  (refine ⟨fun hd => ?_, fun hd => ?_⟩ <;> (try simp only [Bool.not_eq_true', Bool.not_eq_false', decide_eq_true_eq, decide_eq_false_iff_not, ne_eq, Classical.not_not] at hd) <;> (conv => whnf))
  (refine hKq _ _ _ (.refl _) ?_; clear hKq Kq; conv => whnf)
  (refine VSeq.mk fun Kq hKq => ?_; conv => whnf)
  (refine VSeq.mk fun Kq hKq => ?_; conv => whnf)
  (refine hKq _ _ _ (.refl _) ?_; clear hKq Kq; conv => whnf)
  (refine VSeq.mk fun Kq hKq => ?_; conv => whnf)
  (refine hKq _ _ _ (.refl _) ?_; clear hKq Kq; conv => whnf)
  (refine VSeq.mk fun Kq hKq => ?_; conv => whnf)
  (refine ⟨fun hd => ?_, fun hd => ?_⟩ <;> (try simp only [Bool.not_eq_true', Bool.not_eq_false', decide_eq_true_eq, decide_eq_false_iff_not, ne_eq, Classical.not_not] at hd) <;> (conv => whnf))
  (refine hKq _ _ _ (.refl _) ?_; clear hKq Kq; conv => whnf)
  (refine And.intro (fun _ => ?_) (fun h => absurd (by first | rfl | assumption | omega | decide) (of_decide_eq_false h)); conv => whnf)
  (refine hKq _ _ _ (.refl _) ?_; clear hKq Kq; conv => whnf)
  (refine And.intro (fun _ => ?_) (fun h => absurd (by first | rfl | assumption | omega | decide) (of_decide_eq_false h)); conv => whnf)
  (refine VSeq.mk fun Kq hKq => ?_; conv => whnf)
  (refine hKq _ _ _ (.refl _) ?_; clear hKq Kq; conv => whnf)
  rotate_left
  (refine hKq _ _ _ (.refl _) ?_; clear hKq Kq; conv => whnf)
  (refine hKq _ _ _ (.refl _) ?_; clear hKq Kq; conv => whnf)
  (refine hKq _ _ _ (.refl _) ?_; clear hKq Kq; conv => whnf)
  (refine Or.inl (And.intro (by first | omega | decide) ?_); conv => whnf)
  rotate_left
  (refine hKq _ _ _ (.refl _) ?_; clear hKq Kq; conv => whnf)
  (refine VSeq.mk fun Kq hKq => ?_; conv => whnf)
  (refine VSeq.mk fun Kq hKq => ?_; conv => whnf)
  (refine hKq _ _ _ (.refl _) ?_; clear hKq Kq; conv => whnf)
  (refine VSeq.mk fun Kq hKq => ?_; conv => whnf)
  (refine hKq _ _ _ (.refl _) ?_; clear hKq Kq; conv => whnf)
  (refine VSeq.mk fun Kq hKq => ?_; conv => whnf)
  (refine hKq _ _ _ (.refl _) ?_; clear hKq Kq; conv => whnf)
  (refine ⟨fun hd => ?_, fun hd => ?_⟩ <;> (try simp only [Bool.not_eq_true', Bool.not_eq_false', decide_eq_true_eq, decide_eq_false_iff_not, ne_eq, Classical.not_not] at hd) <;> (conv => whnf))
  (refine hKq _ _ _ (.refl _) ?_; clear hKq Kq; conv => whnf)
  (refine ⟨fun hd => ?_, fun hd => ?_⟩ <;> (try simp only [Bool.not_eq_true', Bool.not_eq_false', decide_eq_true_eq, decide_eq_false_iff_not, ne_eq, Classical.not_not] at hd) <;> (conv => whnf))
  (refine VSeq.mk fun Kq hKq => ?_; conv => whnf)
  (refine hKq _ _ _ (.refl _) ?_; clear hKq Kq; conv => whnf)
  rotate_left
  (refine hKq _ _ _ (.refl _) ?_; clear hKq Kq; conv => whnf)
  (refine Or.inl (And.intro (by first | omega | decide) ?_); conv => whnf)
  rotate_left
  (refine hKq _ _ _ (.refl _) ?_; clear hKq Kq; conv => whnf)
  (refine hKq _ _ _ (.refl _) ?_; clear hKq Kq; conv => whnf)
  (refine Or.inl (And.intro (by first | omega | decide) ?_); conv => whnf)
  rotate_left
  all_goals first | exact ⟨by rw [hbf (wch_f (by omega))]; rfl, hp.ext⟩ | exact ⟨mm - 1, _, by omega, hbt (wch_t (by omega)), sub_cons rfl (sub_cons rfl sub_nil)⟩
 ·have hlt := of_decide_eq_false hlt
  conv => whnf
  clear hKq Kq
  refine hKq _ _ _ (.refl _) ?_
  clear hKq Kq
  conv => whnf
  refine VSeq.mk fun Kq hKq => ?_
  conv => whnf
  refine VSeq.mk fun Kq hKq => ?_
  conv => whnf
  refine hKq _ _ _ (.refl _) ?_
  clear hKq Kq
  conv => whnf
  have hi : i = s.size := by omega
  subst hi
  have hpw := wordB_t hall
  clear hall
  unfold inB at hpw
  (refine ⟨fun hd => ?_, fun hd => ?_⟩ <;> (try simp only [Bool.not_eq_true', Bool.not_eq_false', decide_eq_true_eq, decide_eq_false_iff_not, ne_eq, Classical.not_not] at hd) <;> (conv => whnf))
  (refine hKq _ _ _ (.refl _) ?_; clear hKq Kq; conv => whnf)
  (refine ⟨congrArg Value.bool ?_, hp.ext⟩; rw [Bool.eq_iff_iff]; first | (simp only [Bool.or_eq_true, Bool.and_eq_true, decide_eq_true_eq, Bool.not_eq_true', decide_eq_false_iff_not, eq_self, true_and, and_true, true_iff, iff_true, false_iff, iff_false, reduceCtorEq, ne_eq, *] <;> omega) | (simp_all; fail_if_success skip) | (simp_all <;> omega))
  (refine hKq _ _ _ (.refl _) ?_; clear hKq Kq; conv => whnf)
  (refine ⟨congrArg Value.bool ?_, hp.ext⟩; rw [Bool.eq_iff_iff]; first | (simp only [Bool.or_eq_true, Bool.and_eq_true, decide_eq_true_eq, Bool.not_eq_true', decide_eq_false_iff_not, eq_self, true_and, and_true, true_iff, iff_true, false_iff, iff_false, reduceCtorEq, ne_eq, *] <;> omega) | (simp_all; fail_if_success skip) | (simp_all <;> omega))
set_option maxHeartbeats 1600000
structure Wt where
 a : Ad
 b : Ad
 now : Int
 nxt : Int
 til : Int
 ser : Int
 gone : Bool
 noise : ByteArray
 word : ByteArray
 fresh : ByteArray
 asked : List Int
deriving DecidableEq
abbrev iv (l : List Int) : List Value := l.map (Value.int .i64)
abbrev Wt.c (x : Wt) (v : Value) : List Value := [.string x.a.h, .int .i64 x.a.p, .string x.b.h, .int .i64 x.b.p, .int .i64 x.now, .int .i64 x.nxt, .int .i64 x.til, .int .i64 x.ser, .bool x.gone, .string x.noise, .string x.word, .string x.fresh, v]
abbrev gC (x : Wt) (v out : Value) : List Value := [.string x.a.h, .int .i64 x.a.p, .string x.b.h, .int .i64 x.b.p, .int .i64 x.now, .int .i64 x.nxt, .int .i64 x.til, .int .i64 x.ser, .bool x.gone, .string x.noise, .string x.word, .string x.fresh, v, out]
structure Wt.Ok (x : Wt) : Prop where
 a : x.a.Ok
 b : x.b.Ok
 now : In64 x.now
 nxt : In64 x.nxt
 til : In64 x.til
 ser : In64 x.ser
 noise : SzS x.noise
 word : SzS x.word
 fresh : SzS x.fresh
 asked : ∀ i ∈ x.asked, In64 i
 len : x.asked.length ≤ maxLen
def ascB (last ser : Int) : List Int → Bool
 | [] => true
 | i :: r => decide (last < i) && (decide (i < ser) && ascB i ser r)
theorem ascB_cons (last ser i : Int) (r : List Int) : ascB last ser (i :: r) = (decide (last < i) && (decide (i < ser) && ascB i ser r)) := rfl
def wtB (x : Wt) : Bool :=
 (pathB x.a x.b && (inB x.now 0 1099511627776 && (inB x.nxt 0 1099511633776 && (inB x.til 0 1099511657776 && inB x.ser 0 1099511627776)))) &&
 ((inB (x.noise.size : Nat) 1 64 && (wordB x.word && ((decide (x.fresh = ⟨#[]⟩) || (wordB x.fresh && !decide (x.fresh = x.word))) && decide ((x.asked.length : Int) ≤ 8)))) &&
 (ascB (-1) x.ser x.asked && (if x.gone then decide ((x.asked.length : Int) = 0) && decide (x.fresh = ⟨#[]⟩) else decide (x.now < x.til))))
theorem wtB_1 {x : Wt} (h : (pathB x.a x.b && (inB x.now 0 1099511627776 && (inB x.nxt 0 1099511633776 && (inB x.til 0 1099511657776 && inB x.ser 0 1099511627776)))) = false) : wtB x = false := by unfold wtB; rw [h]; rfl
theorem wtB_2 {x : Wt} (h : (inB (x.noise.size : Nat) 1 64 && (wordB x.word && ((decide (x.fresh = ⟨#[]⟩) || (wordB x.fresh && !decide (x.fresh = x.word))) && decide ((x.asked.length : Int) ≤ 8)))) = false) : wtB x = false := by unfold wtB; rw [h, Bool.false_and, Bool.and_false]
theorem wtB_3 {x : Wt} (h : ascB (-1) x.ser x.asked = false) : wtB x = false := by unfold wtB; rw [h, Bool.false_and, Bool.and_false, Bool.and_false]
theorem wtB_4 {x : Wt} (h1 : (pathB x.a x.b && (inB x.now 0 1099511627776 && (inB x.nxt 0 1099511633776 && (inB x.til 0 1099511657776 && inB x.ser 0 1099511627776)))) = true) (h2 : (inB (x.noise.size : Nat) 1 64 && (wordB x.word && ((decide (x.fresh = ⟨#[]⟩) || (wordB x.fresh && !decide (x.fresh = x.word))) && decide ((x.asked.length : Int) ≤ 8)))) = true) (h3 : ascB (-1) x.ser x.asked = true) : wtB x = (if x.gone then decide ((x.asked.length : Int) = 0) && decide (x.fresh = ⟨#[]⟩) else decide (x.now < x.til)) := by unfold wtB; rw [h1, h2, h3]; rfl
theorem valid_c {W : World} {q : Nat} {v out : Value} (x : Wt) (hok : x.Ok) (hb : Blk W q (gC x v out) 87) (hv : SLv W v (iv x.asked)) :
  Calls Tryz.prog 39 #[.pointer (some ⟨q, 0, none⟩)] W fun e w' => e = .returned (.bool (wtB x)) ∧ Ext W w' := by
 obtain ⟨⟨ah, ap⟩, ⟨bh, bp⟩, now, nxt, til, ser, gone, noise, word, fresh, asked⟩ := x
 obtain ⟨ha, hb', _, _, _, _, _, hwo, hfr, _, hln⟩ := hok
 dsimp only [gC] at hb hv hln ha hb' hwo hfr ⊢
 obtain ⟨p, c, rfl⟩ := hv.shape
 have hsl : (iv asked).length = asked.length := List.length_map _
 rw [hsl] at hb hv
 have e1 := @wtB_1 ⟨⟨ah, ap⟩, ⟨bh, bp⟩, now, nxt, til, ser, gone, noise, word, fresh, asked⟩
 have e2 := @wtB_2 ⟨⟨ah, ap⟩, ⟨bh, bp⟩, now, nxt, til, ser, gone, noise, word, fresh, asked⟩
 have e3 := @wtB_3 ⟨⟨ah, ap⟩, ⟨bh, bp⟩, now, nxt, til, ser, gone, noise, word, fresh, asked⟩
 have e4 := @wtB_4 ⟨⟨ah, ap⟩, ⟨bh, bp⟩, now, nxt, til, ser, gone, noise, word, fresh, asked⟩
 dsimp only at e1 e2 e3 e4
 obtain ⟨r, hr⟩ : ∃ r, wtB ⟨⟨ah, ap⟩, ⟨bh, bp⟩, now, nxt, til, ser, gone, noise, word, fresh, asked⟩ = r := ⟨_, rfl⟩
 rw [hr] at e1 e2 e3 e4 ⊢
 clear hr
 refine v_reads (args := [.pointer (some ⟨q, 0, none⟩)]) TTok FFok Tryz.func39 rfl rfl ?_
 conv => whnf
 refine VSeq.mk fun Kq hKq => ?_
 conv => whnf
 refine hKq _ _ _ (.refl _) ?_
 clear hKq Kq
 conv => whnf
 refine VSeq.mk fun Kq hKq => ?_
 conv => whnf
 refine VSeq.mk fun Kq hKq => ?_
 conv => whnf
 refine VSeq.mk fun Kq hKq => ?_
 conv => whnf
 have hp := Hp.nil W
 (refine ⟨_, _, Blk.ldV (vs := [_, _, _, _]) (Blk.ext hb hp.ext) TTok rfl rfl rfl, ?_⟩; conv => whnf)
 (refine V.CallW.out ?_; (conv => arg 3; dsimp only [EV.val, List.toList_toArray, List.nil_append, List.append_nil, List.cons_append]); (with_reducible refine V.PureF.useW (path_p _ _ _ _ (by assumption) (by assumption)) fun w hx => ?_); try (have hp := hp.call hx); conv => whnf)
 (refine hKq _ _ _ (.refl _) ?_; clear hKq Kq; conv => whnf)
 (refine VSeq.mk fun Kq hKq => ?_; conv => whnf)
 (refine ⟨fun hd => ?_, fun hd => ?_⟩ <;> (try simp only [Bool.not_eq_true', Bool.not_eq_false', decide_eq_true_eq, decide_eq_false_iff_not, ne_eq, Classical.not_not] at hd) <;> (conv => whnf))
 (refine hKq _ _ _ (.refl _) ?_; clear hKq Kq; conv => whnf)
 (refine VSeq.mk fun Kq hKq => ?_; conv => whnf)
 (refine hKq _ _ _ (.refl _) ?_; clear hKq Kq; conv => whnf)
 (refine VSeq.mk fun Kq hKq => ?_; conv => whnf)
 (refine hKq _ _ _ (.refl _) ?_; clear hKq Kq; conv => whnf)
 (refine hKq _ _ _ (.refl _) ?_; clear hKq Kq; conv => whnf)
 (refine VSeq.mk fun Kq hKq => ?_; conv => whnf)
 (refine hKq _ _ _ (.refl _) ?_; clear hKq Kq; conv => whnf)
 (refine ⟨congrArg Value.bool ?_, hp.ext⟩; rw [Bool.eq_iff_iff]; first | (simp only [Bool.or_eq_true, Bool.and_eq_true, decide_eq_true_eq, Bool.not_eq_true', decide_eq_false_iff_not, eq_self, true_and, and_true, true_iff, iff_true, false_iff, iff_false, reduceCtorEq, ne_eq, *] <;> omega) | (simp_all; fail_if_success skip) | (simp_all <;> omega))
 (refine ⟨_, _, Blk.ld (Blk.ext hb hp.ext) TTok rfl rfl, ?_⟩; conv => whnf)
 (refine V.CallW.out ?_; (conv => arg 3; dsimp only [EV.val, List.toList_toArray, List.nil_append, List.append_nil, List.cons_append]); (with_reducible refine V.PureF.useW (cwithin_p _ _ _) fun w hx => ?_); try (have hp := hp.call hx); conv => whnf)
 (refine hKq _ _ _ (.refl _) ?_; clear hKq Kq; conv => whnf)
 (refine VSeq.mk fun Kq hKq => ?_; conv => whnf)
 (refine ⟨fun hd => ?_, fun hd => ?_⟩ <;> (try simp only [Bool.not_eq_true', Bool.not_eq_false', decide_eq_true_eq, decide_eq_false_iff_not, ne_eq, Classical.not_not] at hd) <;> (conv => whnf))
 (refine hKq _ _ _ (.refl _) ?_; clear hKq Kq; conv => whnf)
 (refine VSeq.mk fun Kq hKq => ?_; conv => whnf)
 (refine hKq _ _ _ (.refl _) ?_; clear hKq Kq; conv => whnf)
 (refine hKq _ _ _ (.refl _) ?_; clear hKq Kq; conv => whnf)
 (refine VSeq.mk fun Kq hKq => ?_; conv => whnf)
 (refine hKq _ _ _ (.refl _) ?_; clear hKq Kq; conv => whnf)
 (refine ⟨congrArg Value.bool ?_, hp.ext⟩; rw [Bool.eq_iff_iff]; first | (simp only [Bool.or_eq_true, Bool.and_eq_true, decide_eq_true_eq, Bool.not_eq_true', decide_eq_false_iff_not, eq_self, true_and, and_true, true_iff, iff_true, false_iff, iff_false, reduceCtorEq, ne_eq, *] <;> omega) | (simp_all; fail_if_success skip) | (simp_all <;> omega))
 (refine ⟨_, _, Blk.ld (Blk.ext hb hp.ext) TTok rfl rfl, ?_⟩; conv => whnf)
 (refine V.CallW.out ?_; (conv => arg 3; dsimp only [EV.val, List.toList_toArray, List.nil_append, List.append_nil, List.cons_append]); (with_reducible refine V.PureF.useW (cwithin_p _ _ _) fun w hx => ?_); try (have hp := hp.call hx); conv => whnf)
 (refine hKq _ _ _ (.refl _) ?_; clear hKq Kq; conv => whnf)
 (refine VSeq.mk fun Kq hKq => ?_; conv => whnf)
 (refine ⟨fun hd => ?_, fun hd => ?_⟩ <;> (try simp only [Bool.not_eq_true', Bool.not_eq_false', decide_eq_true_eq, decide_eq_false_iff_not, ne_eq, Classical.not_not] at hd) <;> (conv => whnf))
 (refine hKq _ _ _ (.refl _) ?_; clear hKq Kq; conv => whnf)
 (refine hKq _ _ _ (.refl _) ?_; clear hKq Kq; conv => whnf)
 (refine VSeq.mk fun Kq hKq => ?_; conv => whnf)
 (refine hKq _ _ _ (.refl _) ?_; clear hKq Kq; conv => whnf)
 (refine ⟨congrArg Value.bool ?_, hp.ext⟩; rw [Bool.eq_iff_iff]; first | (simp only [Bool.or_eq_true, Bool.and_eq_true, decide_eq_true_eq, Bool.not_eq_true', decide_eq_false_iff_not, eq_self, true_and, and_true, true_iff, iff_true, false_iff, iff_false, reduceCtorEq, ne_eq, *] <;> omega) | (simp_all; fail_if_success skip) | (simp_all <;> omega))
 (refine ⟨_, _, Blk.ld (Blk.ext hb hp.ext) TTok rfl rfl, ?_⟩; conv => whnf)
 (refine V.CallW.out ?_; (conv => arg 3; dsimp only [EV.val, List.toList_toArray, List.nil_append, List.append_nil, List.cons_append]); (with_reducible refine V.PureF.useW (cwithin_p _ _ _) fun w hx => ?_); try (have hp := hp.call hx); conv => whnf)
 (refine hKq _ _ _ (.refl _) ?_; clear hKq Kq; conv => whnf)
 (refine ⟨fun hd => ?_, fun hd => ?_⟩ <;> (try simp only [Bool.not_eq_true', Bool.not_eq_false', decide_eq_true_eq, decide_eq_false_iff_not, ne_eq, Classical.not_not] at hd) <;> (conv => whnf))
 (refine hKq _ _ _ (.refl _) ?_; clear hKq Kq; conv => whnf)
 (refine VSeq.mk fun Kq hKq => ?_; conv => whnf)
 (refine hKq _ _ _ (.refl _) ?_; clear hKq Kq; conv => whnf)
 (refine ⟨congrArg Value.bool ?_, hp.ext⟩; rw [Bool.eq_iff_iff]; first | (simp only [Bool.or_eq_true, Bool.and_eq_true, decide_eq_true_eq, Bool.not_eq_true', decide_eq_false_iff_not, eq_self, true_and, and_true, true_iff, iff_true, false_iff, iff_false, reduceCtorEq, ne_eq, *] <;> omega) | (simp_all; fail_if_success skip) | (simp_all <;> omega))
 (refine ⟨_, _, Blk.ld (Blk.ext hb hp.ext) TTok rfl rfl, ?_⟩; conv => whnf)
 (refine V.CallW.out ?_; (conv => arg 3; dsimp only [EV.val, List.toList_toArray, List.nil_append, List.append_nil, List.cons_append]); (with_reducible refine V.PureF.useW (cwithin_p _ _ _) fun w hx => ?_); try (have hp := hp.call hx); conv => whnf)
 (refine hKq _ _ _ (.refl _) ?_; clear hKq Kq; conv => whnf)
 (refine ⟨fun hd => ?_, fun hd => ?_⟩ <;> (try simp only [Bool.not_eq_true', Bool.not_eq_false', decide_eq_true_eq, decide_eq_false_iff_not, ne_eq, Classical.not_not] at hd) <;> (conv => whnf))
 (refine VSeq.mk fun Kq hKq => ?_; conv => whnf)
 (refine hKq _ _ _ (.refl _) ?_; clear hKq Kq; conv => whnf)
 (refine ⟨congrArg Value.bool ?_, hp.ext⟩; rw [Bool.eq_iff_iff]; first | (simp only [Bool.or_eq_true, Bool.and_eq_true, decide_eq_true_eq, Bool.not_eq_true', decide_eq_false_iff_not, eq_self, true_and, and_true, true_iff, iff_true, false_iff, iff_false, reduceCtorEq, ne_eq, *] <;> omega) | (simp_all; fail_if_success skip) | (simp_all <;> omega))
 (refine hKq _ _ _ (.refl _) ?_; clear hKq Kq; conv => whnf)
 (refine VSeq.mk fun Kq hKq => ?_; conv => whnf)
 (refine VSeq.mk fun Kq hKq => ?_; conv => whnf)
 have E1 : (pathB ⟨ah, ap⟩ ⟨bh, bp⟩ && (inB now 0 1099511627776 && (inB nxt 0 1099511633776 && (inB til 0 1099511657776 && inB ser 0 1099511627776)))) = true := by simp [*]
 clear e1
 have e4 := e4 E1
 clear E1
 refine v_mixA TTok FFok mixed [(0, false), (1, false), (2, false), (3, false), (4, false), (5, false), (6, false), (7, false), (8, false), (9, false), (10, false), (11, false), (12, false), (13, false), (14, false), (15, false), (16, false), (17, false), (18, false), (19, false), (20, false), (21, false), (22, false), (23, false), (24, false), (25, false), (26, false), (27, false), (28, false), (29, false), (30, false), (31, false), (32, false), (33, false), (34, false), (35, false), (36, false), (37, false), (38, false), (39, false), (40, false), (41, false), (42, false), (43, false), (44, false), (45, false), (46, false), (47, false), (48, false), (49, false), (50, false), (51, false), (52, false), (53, false), (54, false), (55, false)] (by kernel_rfl) ?_
 conv => whnf
 (refine ⟨_, fun w' hx' => Blk.ld (Blk.ext hb (hp.ext.trans hx')) TTok rfl rfl, ?_⟩; conv => whnf)
 (refine V.QCallW.out ?_; (conv => arg 3; dsimp only [EV.val, List.toList_toArray, List.nil_append, List.append_nil, List.cons_append]); (with_reducible refine V.PureF.quietW (cwithin_p _ _ _) ?_); conv => whnf)
 (refine ⟨fun hd => ?_, fun hd => ?_⟩ <;> (try simp only [Bool.not_eq_true', Bool.not_eq_false', decide_eq_true_eq, decide_eq_false_iff_not, ne_eq, Classical.not_not] at hd) <;> (conv => whnf))
 (intro w hx; try (have hp := hp.call hx); conv => whnf)
 (refine hKq _ _ _ (.refl _) ?_; clear hKq Kq; conv => whnf)
 (refine VSeq.mk fun Kq hKq => ?_; conv => whnf)
 (refine hKq _ _ _ (.refl _) ?_; clear hKq Kq; conv => whnf)
 (refine ⟨congrArg Value.bool ?_, hp.ext⟩; rw [Bool.eq_iff_iff]; first | (simp only [Bool.or_eq_true, Bool.and_eq_true, decide_eq_true_eq, Bool.not_eq_true', decide_eq_false_iff_not, eq_self, true_and, and_true, true_iff, iff_true, false_iff, iff_false, reduceCtorEq, ne_eq, *] <;> omega) | (simp_all; fail_if_success skip) | (simp_all <;> omega))
 (refine ⟨_, fun w' hx' => Blk.ld (Blk.ext hb (hp.ext.trans hx')) TTok rfl rfl, ?_⟩; conv => whnf)
 (refine V.QCallW.out ?_; (conv => arg 3; dsimp only [EV.val, List.toList_toArray, List.nil_append, List.append_nil, List.cons_append]); (with_reducible refine V.PureF.quietW (word_p _ (by assumption)) ?_); conv => whnf)
 (refine ⟨fun hd => ?_, fun hd => ?_⟩ <;> (try simp only [Bool.not_eq_true', Bool.not_eq_false', decide_eq_true_eq, decide_eq_false_iff_not, ne_eq, Classical.not_not] at hd) <;> (conv => whnf))
 (intro w hx; try (have hp := hp.call hx); conv => whnf)
 (refine hKq _ _ _ (.refl _) ?_; clear hKq Kq; conv => whnf)
 (refine VSeq.mk fun Kq hKq => ?_; conv => whnf)
 (refine hKq _ _ _ (.refl _) ?_; clear hKq Kq; conv => whnf)
 (refine ⟨congrArg Value.bool ?_, hp.ext⟩; rw [Bool.eq_iff_iff]; first | (simp only [Bool.or_eq_true, Bool.and_eq_true, decide_eq_true_eq, Bool.not_eq_true', decide_eq_false_iff_not, eq_self, true_and, and_true, true_iff, iff_true, false_iff, iff_false, reduceCtorEq, ne_eq, *] <;> omega) | (simp_all; fail_if_success skip) | (simp_all <;> omega))
 (refine ⟨_, fun w' hx' => Blk.ld (Blk.ext hb (hp.ext.trans hx')) TTok rfl rfl, ?_⟩; conv => whnf)
 (refine ⟨fun hd => ?_, fun hd => ?_⟩ <;> (try simp only [Bool.not_eq_true', Bool.not_eq_false', decide_eq_true_eq, decide_eq_false_iff_not, ne_eq, Classical.not_not] at hd) <;> (conv => whnf))
 (refine ⟨_, fun w' hx' => Blk.ld (Blk.ext hb (hp.ext.trans hx')) TTok rfl rfl, ?_⟩; conv => whnf)
 (refine V.QCallW.out ?_; (conv => arg 3; dsimp only [EV.val, List.toList_toArray, List.nil_append, List.append_nil, List.cons_append]); (with_reducible refine V.PureF.quietW (word_p _ (by assumption)) ?_); conv => whnf)
 (refine ⟨fun hd => ?_, fun hd => ?_⟩ <;> (try simp only [Bool.not_eq_true', Bool.not_eq_false', decide_eq_true_eq, decide_eq_false_iff_not, ne_eq, Classical.not_not] at hd) <;> (conv => whnf))
 (intro w hx; try (have hp := hp.call hx); conv => whnf)
 (refine hKq _ _ _ (.refl _) ?_; clear hKq Kq; conv => whnf)
 (refine VSeq.mk fun Kq hKq => ?_; conv => whnf)
 (refine hKq _ _ _ (.refl _) ?_; clear hKq Kq; conv => whnf)
 (refine ⟨congrArg Value.bool ?_, hp.ext⟩; rw [Bool.eq_iff_iff]; first | (simp only [Bool.or_eq_true, Bool.and_eq_true, decide_eq_true_eq, Bool.not_eq_true', decide_eq_false_iff_not, eq_self, true_and, and_true, true_iff, iff_true, false_iff, iff_false, reduceCtorEq, ne_eq, *] <;> omega) | (simp_all; fail_if_success skip) | (simp_all <;> omega))
 (refine ⟨_, fun w' hx' => Blk.ld (Blk.ext hb (hp.ext.trans hx')) TTok rfl rfl, ?_⟩; conv => whnf)
 (refine ⟨_, fun w' hx' => Blk.ld (Blk.ext hb (hp.ext.trans hx')) TTok rfl rfl, ?_⟩; conv => whnf)
 (refine ⟨fun hd => ?_, fun hd => ?_⟩ <;> (try simp only [Bool.not_eq_true', Bool.not_eq_false', decide_eq_true_eq, decide_eq_false_iff_not, ne_eq, Classical.not_not] at hd) <;> (conv => whnf))
 (intro w hx; try (have hp := hp.call hx); conv => whnf)
 (refine hKq _ _ _ (.refl _) ?_; clear hKq Kq; conv => whnf)
 (refine VSeq.mk fun Kq hKq => ?_; conv => whnf)
 (refine hKq _ _ _ (.refl _) ?_; clear hKq Kq; conv => whnf)
 (refine ⟨congrArg Value.bool ?_, hp.ext⟩; rw [Bool.eq_iff_iff]; first | (simp only [Bool.or_eq_true, Bool.and_eq_true, decide_eq_true_eq, Bool.not_eq_true', decide_eq_false_iff_not, eq_self, true_and, and_true, true_iff, iff_true, false_iff, iff_false, reduceCtorEq, ne_eq, *] <;> omega) | (simp_all; fail_if_success skip) | (simp_all <;> omega))
 (refine ⟨_, fun w' hx' => Blk.ld (Blk.ext hb (hp.ext.trans hx')) TTok rfl rfl, ?_⟩; conv => whnf)
 (intro w hx; try (have hp := hp.call hx); conv => whnf)
 (refine hKq _ _ _ (.refl _) ?_; clear hKq Kq; conv => whnf)
 (refine ⟨fun hd => ?_, fun hd => ?_⟩ <;> (try simp only [Bool.not_eq_true', Bool.not_eq_false', decide_eq_true_eq, decide_eq_false_iff_not, ne_eq, Classical.not_not] at hd) <;> (conv => whnf))
 (refine VSeq.mk fun Kq hKq => ?_; conv => whnf)
 (refine hKq _ _ _ (.refl _) ?_; clear hKq Kq; conv => whnf)
 (refine ⟨congrArg Value.bool ?_, hp.ext⟩; rw [Bool.eq_iff_iff]; first | (simp only [Bool.or_eq_true, Bool.and_eq_true, decide_eq_true_eq, Bool.not_eq_true', decide_eq_false_iff_not, eq_self, true_and, and_true, true_iff, iff_true, false_iff, iff_false, reduceCtorEq, ne_eq, *] <;> omega) | (simp_all; fail_if_success skip) | (simp_all <;> omega))
 (refine hKq _ _ _ (.refl _) ?_; clear hKq Kq; conv => whnf)
 (refine VSeq.mk fun Kq hKq => ?_; conv => whnf)
 (refine hKq _ _ _ (.refl _) ?_; clear hKq Kq; conv => whnf)
 (refine VSeq.mk fun Kq hKq => ?_; conv => whnf)
 (refine VSeq.mk fun Kq hKq => ?_; conv => whnf)
 (refine ⟨_, _, Blk.ld (Blk.ext hb hp.ext) TTok rfl rfl, ?_⟩; conv => whnf)
 (refine hKq _ _ _ (.refl _) ?_; clear hKq Kq; conv => whnf)
 rotate_left
 (refine ⟨_, fun w' hx' => Blk.ld (Blk.ext hb (hp.ext.trans hx')) TTok rfl rfl, ?_⟩; conv => whnf)
 (intro w hx; try (have hp := hp.call hx); conv => whnf)
 (refine hKq _ _ _ (.refl _) ?_; clear hKq Kq; conv => whnf)
 (refine ⟨fun hd => ?_, fun hd => ?_⟩ <;> (try simp only [Bool.not_eq_true', Bool.not_eq_false', decide_eq_true_eq, decide_eq_false_iff_not, ne_eq, Classical.not_not] at hd) <;> (conv => whnf))
 (refine VSeq.mk fun Kq hKq => ?_; conv => whnf)
 (refine hKq _ _ _ (.refl _) ?_; clear hKq Kq; conv => whnf)
 (refine ⟨congrArg Value.bool ?_, hp.ext⟩; rw [Bool.eq_iff_iff]; first | (simp only [Bool.or_eq_true, Bool.and_eq_true, decide_eq_true_eq, Bool.not_eq_true', decide_eq_false_iff_not, eq_self, true_and, and_true, true_iff, iff_true, false_iff, iff_false, reduceCtorEq, ne_eq, *] <;> omega) | (simp_all; fail_if_success skip) | (simp_all <;> omega))
 (refine hKq _ _ _ (.refl _) ?_; clear hKq Kq; conv => whnf)
 (refine VSeq.mk fun Kq hKq => ?_; conv => whnf)
 (refine hKq _ _ _ (.refl _) ?_; clear hKq Kq; conv => whnf)
 (refine VSeq.mk fun Kq hKq => ?_; conv => whnf)
 (refine VSeq.mk fun Kq hKq => ?_; conv => whnf)
 (refine ⟨_, _, Blk.ld (Blk.ext hb hp.ext) TTok rfl rfl, ?_⟩; conv => whnf)
 (refine hKq _ _ _ (.refl _) ?_; clear hKq Kq; conv => whnf)
 rotate_left
 all_goals
  have E2 : (inB (noise.size : Nat) 1 64 && (wordB word && ((decide (fresh = ⟨#[]⟩) || (wordB fresh && !decide (fresh = word))) && decide ((asked.length : Int) ≤ 8)))) = true := by
   have hl8 : (asked.length : Int) ≤ 8 := by omega
   simp [*]
  have e4 := e4 E2
  have hl8 : asked.length ≤ 8 := by omega
  clear e2 E2
  refine ⟨fun mm e w' => ∃ (i : Nat) (last : Int), mm + i = asked.length ∧ e = [(0, .v (.pointer (some ⟨q, 0, none⟩))), (3, .v (.int .i64 last)), (109, .v (.slice p asked.length c)), (110, .v (.int .i64 asked.length)), (111, .v (.int .i64 i))] ∧ ascB last ser (asked.drop i) = ascB (-1) ser asked ∧ HpM [] W w' [],
   ⟨asked.length, _, ⟨0, -1, by omega, rfl, rfl, hp⟩, sub_cons rfl (sub_cons rfl (sub_cons rfl (sub_cons rfl (sub_cons rfl sub_nil))))⟩, ?_⟩
  rintro mm _ w ⟨i, last, hmm, rfl, has, hp⟩
  conv => whnf
  refine VSeq.mk fun Kq hKq => ?_
  conv => whnf
  refine hKq _ _ _ (.refl _) ?_
  clear hKq Kq
  conv => whnf
  refine VSeq.mk fun Kq hKq => ?_
  conv => whnf
  refine ⟨fun hlt => ?_, fun hlt => ?_⟩
  ·have hlt := of_decide_eq_true hlt
   conv => whnf
   refine hKq _ _ _ (.refl _) ?_
   clear hKq Kq
   conv => whnf
   refine VSeq.mk fun Kq hKq => ?_
   conv => whnf
   refine VSeq.mk fun Kq hKq => ?_
   conv => whnf
   have hi : i < asked.length := by omega
   obtain ⟨a, ha⟩ : ∃ a, asked[i]? = some a := ⟨asked[i], List.getElem?_eq_getElem hi⟩
   obtain ⟨g, off, rfl, hld⟩ := (hv.ext hp.ext).at (j := i) (x := .int .i64 a) (by rw [List.getElem?_map, ha]; rfl)
   have hdr : asked.drop i = a :: asked.drop (i + 1) := by rw [List.drop_eq_getElem_cons hi]; congr 1; rw [List.getElem?_eq_getElem hi] at ha; exact Option.some.inj ha
   rw [hdr] at has
   rw [ascB_cons] at has
   refine ⟨i, ⟨by first | rfl | omega, by omega⟩, ?_⟩
   conv => whnf
   rw [Nat.add_comm] at hld
   refine ⟨_, _, run_ld TTok rfl hld, ?_⟩
   conv => whnf
   refine hKq _ _ _ (.refl _) ?_
   clear hKq Kq
   conv => whnf
   refine VSeq.mk fun Kq hKq => ?_
   conv => whnf
   refine VSeq.mk fun Kq hKq => ?_
   conv => whnf
   refine VSeq.mk fun Kq hKq => ?_
   conv => whnf
   refine hKq _ _ _ (.refl _) ?_
   clear hKq Kq
   conv => whnf
   skip
   refine ⟨fun h1 => ?_, fun h1 => ?_⟩
   ·have h1 := of_decide_eq_true h1
    conv => whnf
    refine hKq _ _ _ (.refl _) ?_
    clear hKq Kq
    conv => whnf
    refine VSeq.mk fun Kq hKq => ?_
    conv => whnf
    refine hKq _ _ _ (.refl _) ?_
    clear hKq Kq
    conv => whnf
    rw [decide_eq_false (by omega), Bool.false_and] at has
    (refine ⟨congrArg Value.bool ?_, hp.ext⟩; rw [Bool.eq_iff_iff]; first | (simp only [Bool.or_eq_true, Bool.and_eq_true, decide_eq_true_eq, Bool.not_eq_true', decide_eq_false_iff_not, eq_self, true_and, and_true, true_iff, iff_true, false_iff, iff_false, reduceCtorEq, ne_eq, *] <;> omega) | (simp_all; fail_if_success skip) | (simp_all <;> omega))
   ·have h1 := of_decide_eq_false h1
    conv => whnf
    (refine ⟨_, _, Blk.ld (Blk.ext hb hp.ext) TTok rfl rfl, ?_⟩; conv => whnf)
    (refine hKq _ _ _ (.refl _) ?_; clear hKq Kq; conv => whnf)
    refine ⟨fun h2 => ?_, fun h2 => ?_⟩
    ·have h2 := of_decide_eq_true h2
     conv => whnf
     refine VSeq.mk fun Kq hKq => ?_
     conv => whnf
     refine hKq _ _ _ (.refl _) ?_
     clear hKq Kq
     conv => whnf
     rw [decide_eq_false (show ¬ a < ser by omega), Bool.false_and, Bool.and_false] at has
     (refine ⟨congrArg Value.bool ?_, hp.ext⟩; rw [Bool.eq_iff_iff]; first | (simp only [Bool.or_eq_true, Bool.and_eq_true, decide_eq_true_eq, Bool.not_eq_true', decide_eq_false_iff_not, eq_self, true_and, and_true, true_iff, iff_true, false_iff, iff_false, reduceCtorEq, ne_eq, *] <;> omega) | (simp_all; fail_if_success skip) | (simp_all <;> omega))
    ·have h2 := of_decide_eq_false h2
     conv => whnf
     refine hKq _ _ _ (.refl _) ?_
     clear hKq Kq
     conv => whnf
     refine hKq _ _ _ (.refl _) ?_
     clear hKq Kq
     conv => whnf
     refine Or.inl (And.intro (by omega) ?_)
     conv => whnf
     rw [decide_eq_true (show a < ser by omega), decide_eq_true (show last < a by omega), Bool.true_and, Bool.true_and] at has
     skip
     exact ⟨mm - 1, _, by omega, ⟨i + 1, a, by omega, rfl, has, hp⟩, sub_cons rfl (sub_cons rfl (sub_cons rfl (sub_cons rfl (sub_cons rfl sub_nil))))⟩
  ·have hlt := of_decide_eq_false hlt
   conv => whnf
   clear hKq Kq
   refine hKq _ _ _ (.refl _) ?_
   clear hKq Kq
   conv => whnf
   refine VSeq.mk fun Kq hKq => ?_
   conv => whnf
   refine VSeq.mk fun Kq hKq => ?_
   conv => whnf
   have hi : i = asked.length := by omega
   subst hi
   rw [List.drop_of_length_le (Nat.le_refl _)] at has
   have e4 := e4 (by rw [← has]; rfl)
   clear has e3
   cases gone with
   | true =>
    (refine ⟨_, _, Blk.ld (Blk.ext hb hp.ext) TTok rfl rfl, ?_⟩; conv => whnf)
    (refine hKq _ _ _ (.refl _) ?_; clear hKq Kq; conv => whnf)
    (refine And.intro (fun _ => ?_) (fun h => absurd h (by decide)); conv => whnf)
    (refine VSeq.mk fun Kq hKq => ?_; conv => whnf)
    (refine VSeq.mk fun Kq hKq => ?_; conv => whnf)
    (refine ⟨_, _, Blk.ld (Blk.ext hb hp.ext) TTok rfl rfl, ?_⟩; conv => whnf)
    (refine hKq _ _ _ (.refl _) ?_; clear hKq Kq; conv => whnf)
    (refine ⟨fun hd => ?_, fun hd => ?_⟩ <;> (try simp only [Bool.not_eq_true', Bool.not_eq_false', decide_eq_true_eq, decide_eq_false_iff_not, ne_eq, Classical.not_not] at hd) <;> (conv => whnf))
    (refine ⟨_, _, Blk.ld (Blk.ext hb hp.ext) TTok rfl rfl, ?_⟩; conv => whnf)
    (refine hKq _ _ _ (.refl _) ?_; clear hKq Kq; conv => whnf)
    (refine ⟨congrArg Value.bool ?_, hp.ext⟩; rw [Bool.eq_iff_iff]; first | (simp only [Bool.or_eq_true, Bool.and_eq_true, decide_eq_true_eq, Bool.not_eq_true', decide_eq_false_iff_not, eq_self, true_and, and_true, true_iff, iff_true, false_iff, iff_false, reduceCtorEq, ne_eq, *] <;> omega) | (simp_all; fail_if_success skip) | (simp_all <;> omega))
    (refine hKq _ _ _ (.refl _) ?_; clear hKq Kq; conv => whnf)
    (refine ⟨congrArg Value.bool ?_, hp.ext⟩; rw [Bool.eq_iff_iff]; first | (simp only [Bool.or_eq_true, Bool.and_eq_true, decide_eq_true_eq, Bool.not_eq_true', decide_eq_false_iff_not, eq_self, true_and, and_true, true_iff, iff_true, false_iff, iff_false, reduceCtorEq, ne_eq, *] <;> omega) | (simp_all; fail_if_success skip) | (simp_all <;> omega))
   | false =>
    (refine ⟨_, _, Blk.ld (Blk.ext hb hp.ext) TTok rfl rfl, ?_⟩; conv => whnf)
    (refine hKq _ _ _ (.refl _) ?_; clear hKq Kq; conv => whnf)
    (refine And.intro (fun h => absurd h (by decide)) (fun _ => ?_); conv => whnf)
    (refine hKq _ _ _ (.refl _) ?_; clear hKq Kq; conv => whnf)
    (refine VSeq.mk fun Kq hKq => ?_; conv => whnf)
    refine v_mixA TTok FFok mixed [(0, false), (1, false), (2, false), (3, false), (4, false), (5, false), (6, false), (7, false), (8, false), (9, false), (10, false), (11, false)] (by kernel_rfl) ?_
    conv => whnf
    (refine ⟨_, fun w' hx' => Blk.ld (Blk.ext hb (hp.ext.trans hx')) TTok rfl rfl, ?_⟩; conv => whnf)
    (refine ⟨_, fun w' hx' => Blk.ld (Blk.ext hb (hp.ext.trans hx')) TTok rfl rfl, ?_⟩; conv => whnf)
    (intro w hx; try (have hp := hp.call hx); conv => whnf)
    (refine hKq _ _ _ (.refl _) ?_; clear hKq Kq; conv => whnf)
    (refine ⟨congrArg Value.bool ?_, hp.ext⟩; rw [Bool.eq_iff_iff]; first | (simp only [Bool.or_eq_true, Bool.and_eq_true, decide_eq_true_eq, Bool.not_eq_true', decide_eq_false_iff_not, eq_self, true_and, and_true, true_iff, iff_true, false_iff, iff_false, reduceCtorEq, ne_eq, *] <;> omega) | (simp_all; fail_if_success skip) | (simp_all <;> omega))
set_option maxHeartbeats 1600000
theorem _root_.Go.Proofs.YtgkhcgiggjijlaaGreat.V.HpM.pickH {M : List Nat} {w0 w : World} {L H : List It} (h : HpM M w0 w (L ++ H)) (ns : List Nat) (hn : ns.Nodup) : HpM M w0 w ((ns.filterMap fun i => L[i]?) ++ H) := by
 have hL := (h.sub (List.sublist_append_left L H)).pick ns hn
 have hH := h.sub (List.sublist_append_right L H)
 have hm : ∀ x ∈ ns.filterMap (fun i => L[i]?), x ∈ L := fun x hx => by
  obtain ⟨i, _, hi⟩ := List.mem_filterMap.1 hx
  exact List.mem_of_getElem? hi
 refine ⟨h.extM, fun x hx => ?_, fun x hx => ?_, fun x hx => ?_, List.pairwise_append.2 ⟨hL.apart, hH.apart, fun x hx y hy => (List.pairwise_append.1 h.apart).2.2 x (hm x hx) y hy⟩⟩
 ·rcases List.mem_append.1 hx with hx | hx
  ·exact hL.ok x hx
  ·exact hH.ok x hx
 ·rcases List.mem_append.1 hx with hx | hx
  ·exact hL.holds x hx
  ·exact hH.holds x hx
 ·rcases List.mem_append.1 hx with hx | hx
  ·exact hL.lo x hx
  ·exact hH.lo x hx
def gapN (s : ByteArray) (n : Nat) : Nat := 4000 + 2000 * byt s (n % s.size) / 256
theorem gapN_le (s : ByteArray) (n : Nat) : 4000 ≤ gapN s n ∧ gapN s n < 6000 := by
 unfold gapN
 have := byt_lt s (n % s.size)
 omega
theorem gap_c {W : World} {q : Nat} {v out : Value} (x : Wt) (hb : Blk W q (gC x v out) 87) (hz : SzS x.noise) (h0 : 0 < x.noise.size) (n : Nat) (hn : (n : Int) ≤ 9223372036854775807) :
  Calls Tryz.prog 42 #[.pointer (some ⟨q, 0, none⟩), .int .i64 n] W fun e w' => e = .returned (.int .i64 (gapN x.noise n : Nat)) ∧ Ext W w' := by
 obtain ⟨⟨ah, ap⟩, ⟨bh, bp⟩, now, nxt, til, ser, gone, noise, word, fresh, asked⟩ := x
 dsimp only [gC] at hb hz h0 ⊢
 have hbl := byt_lt noise (n % noise.size)
 refine v_reads (args := [.pointer (some ⟨q, 0, none⟩), .int .i64 n]) TTok FFok Tryz.func42 rfl rfl ?_
 conv => whnf
 refine VSeq.mk fun Kq hKq => ?_
 conv => whnf
 refine hKq _ _ _ (.refl _) ?_
 clear hKq Kq
 conv => whnf
 refine VSeq.mk fun Kq hKq => ?_
 conv => whnf
 have hp := Hp.nil W
 refine v_mixA TTok FFok mixed [(0, false), (1, false), (2, false), (3, false), (4, false), (5, false), (6, false), (7, false), (8, false), (9, false), (10, false), (11, false), (12, false), (13, false), (14, false), (15, false), (16, false), (17, false), (18, false)] (by kernel_rfl) ?_
 conv => whnf
 (refine ⟨_, fun w' hx' => Blk.ld (Blk.ext hb (hp.ext.trans hx')) TTok rfl rfl, ?_⟩; conv => whnf)
 (refine ⟨_, fun w' hx' => Blk.ld (Blk.ext hb (hp.ext.trans hx')) TTok rfl rfl, ?_⟩; conv => whnf)
 (refine And.intro (by first | omega | decide) ?_; conv => whnf)
 refine ⟨n % noise.size, ⟨by first | rfl | omega, Nat.mod_lt _ h0⟩, ?_⟩
 conv => whnf
 refine Or.inl (And.intro (by omega) ?_)
 conv => whnf
 refine Or.inl (And.intro (by omega) ?_)
 conv => whnf
 refine And.intro (by omega) ?_
 conv => whnf
 refine Or.inl (And.intro (by omega) ?_)
 conv => whnf
 (intro w hx; try (have hp := hp.call hx); conv => whnf)
 (refine hKq _ _ _ (.refl _) ?_; clear hKq Kq; conv => whnf)
 exact ⟨congrArg (Value.int .i64) (by unfold gapN; omega), hp.ext⟩
theorem gap12_p (x : Wt) (v : Value) (hz : SzS x.noise) (h0 : 0 < x.noise.size) (n : Nat) (hn : (n : Int) ≤ 9223372036854775807) :
  PureF Tryz.prog 43 #[.agg (x.c v).toArray, .int .i64 n] (.int .i64 (gapN x.noise n : Nat)) := by
 obtain ⟨⟨ah, ap⟩, ⟨bh, bp⟩, now, nxt, til, ser, gone, noise, word, fresh, asked⟩ := x
 dsimp only [Wt.c] at hz h0 ⊢
 have hbl := byt_lt noise (n % noise.size)
 first | refine v_pure TTok FFok Tryz.func43 rfl rfl fun w0 => ?_ | refine v_pure (args := []) TTok FFok Tryz.func43 rfl rfl fun w0 => ?_
 conv => whnf
 refine VSeq.mk fun Kq hKq => ?_
 conv => whnf
 have hp := Hp.nil w0
 refine hp.kboxA fun q2 w hp hx => ?_
 conv => whnf
 refine hKq _ _ _ (.refl _) ?_
 clear hKq Kq
 conv => whnf
 refine VSeq.mk fun Kq hKq => ?_
 conv => whnf
 refine v_mixA TTok FFok mixed [(0, false), (1, false), (2, false), (3, false), (4, false), (5, false), (6, false), (7, false), (8, false), (9, false), (10, false), (11, false), (12, false)] (by kernel_rfl) ?_
 conv => whnf
 (refine ⟨_, fun w' hx' => Blk.ld (Blk.ext (hp.get (i := 0) rfl) hx') TTok rfl rfl, ?_⟩; conv => whnf)
 (refine ⟨_, fun w' hx' => Blk.ld (Blk.ext (hp.get (i := 0) rfl) hx') TTok rfl rfl, ?_⟩; conv => whnf)
 (refine And.intro (by first | omega | decide) ?_; conv => whnf)
 refine ⟨n % noise.size, ⟨by first | rfl | omega, Nat.mod_lt _ h0⟩, ?_⟩
 conv => whnf
 refine Or.inl (And.intro (by omega) ?_)
 conv => whnf
 refine Or.inl (And.intro (by omega) ?_)
 conv => whnf
 refine And.intro (by omega) ?_
 conv => whnf
 refine Or.inl (And.intro (by omega) ?_)
 conv => whnf
 (intro w hx; try (have hp := hp.call hx); conv => whnf)
 (refine hKq _ _ _ (.refl _) ?_; clear hKq Kq; conv => whnf)
 exact ⟨congrArg (Value.int .i64) (by unfold gapN; omega), hp.ext⟩
theorem CloneI_c {W : World} {v : Value} {l : List Int} (hv : SLv W v (iv l)) (hl : l.length ≤ 100000) :
  Calls Tryz.prog 57 #[v] W fun e w' => ∃ u, e = .returned u ∧ HpM [] W w' [row 3 1 u l.length (iv l)] := by
 have hsl : (iv l).length = l.length := List.length_map _
 have h1 : ∀ u ∈ iv l, u.oneCell' = true := fun u hu => by
  obtain ⟨a, _, rfl⟩ := List.mem_map.1 hu
  rfl
 have hsrc := fun {w : World} (h : Ext W w) => (hv.ext h).src TTok (tx := 32) rfl h1
 obtain ⟨p, c, rfl⟩ := hv.shape
 rw [hsl] at hv hsrc
 refine v_fn (args := [.slice p (iv l).length c]) TTok FFok Tryz.func57 rfl (Nat.le_of_ble_eq_true rfl) ?_
 rw [hsl]
 have hp := Hp.nil W
 conv => whnf
 refine VSeq.mk fun Kq hKq => ?_
 conv => whnf
 refine hKq _ _ _ (.refl _) ?_
 clear hKq Kq
 conv => whnf
 refine VSeq.mk fun Kq hKq => ?_
 conv => whnf
 refine VSeq.mk fun Kq hKq => ?_
 conv => whnf
 cases p with
 | none =>
  have h0 : l = [] := by
   rcases hv with ⟨h, _⟩ | ⟨g, off, c, h, _⟩
   ·exact List.map_eq_nil_iff.1 h
   ·simp at h
  subst h0
  refine ⟨.bool true, W, by kernel_rfl, ?_⟩
  conv => whnf
  refine hKq _ _ _ (.refl _) ?_
  clear hKq Kq
  conv => whnf
  refine And.intro (fun _ => ?_) (fun h => by cases h)
  conv => whnf
  refine VSeq.mk fun Kq hKq => ?_
  conv => whnf
  refine hKq _ _ _ (.refl _) ?_
  clear hKq Kq
  conv => whnf
  exact hp.knil 3 1
 | some a =>
  refine ⟨.bool false, W, by kernel_rfl, ?_⟩
  conv => whnf
  refine hKq _ _ _ (.refl _) ?_
  clear hKq Kq
  conv => whnf
  refine And.intro (fun h => by cases h) (fun _ => ?_)
  conv => whnf
  refine hKq _ _ _ (.refl _) ?_
  clear hKq Kq
  conv => whnf
  refine VSeq.mk fun Kq hKq => ?_
  conv => whnf
  refine hp.kmadeR [] 3 1 0 rfl (by decide) (by kernel_rfl) fun b w hp hx => ?_
  conv => whnf
  refine hp.kappE sl32 (hsrc hx) (by omega) (by unfold maxLen; omega) fun v' w hp _ => ?_
  rw [Nat.zero_add, List.nil_append] at hp
  obtain ⟨p1, c1, rfl⟩ := row_shape (hp.get (i := 0) rfl)
  conv => whnf
  refine hKq _ _ _ (.refl _) ?_
  clear hKq Kq
  conv => whnf
  exact hp
def startN (x : Wt) (now : Int) : Int := if wtB x then (if inB now x.now 1099511627776 then 0 else 2) else 120
theorem start_v {W : World} {v : Value} (x : Wt) (hok : x.Ok) (hv : SLv W v (iv x.asked)) (now : Int) (hw : wtB x = false) :
  Calls Tryz.prog 40 #[.agg (x.c v).toArray, .int .i64 now] W fun e w' => e = .returned (.tuple #[.pointer none, .int .i64 120]) ∧ Ext W w' := by
 obtain ⟨⟨ah, ap⟩, ⟨bh, bp⟩, now0, nxt, til, ser, gone, noise, word, fresh, asked⟩ := x
 have hok2 := hok
 obtain ⟨ha, hb', _, _, _, _, _, hwo, hfr, _, hln⟩ := hok2
 dsimp only [Wt.c] at hv hln hw ⊢
 have hsl : (iv asked).length = asked.length := List.length_map _
 obtain ⟨p, c, rfl⟩ := hv.shape
 rw [hsl] at hv ⊢
 refine v_reads (args := [.agg #[.string ah, .int .i64 ap, .string bh, .int .i64 bp, .int .i64 now0, .int .i64 nxt, .int .i64 til, .int .i64 ser, .bool gone, .string noise, .string word, .string fresh, .slice p asked.length c], .int .i64 now]) TTok FFok Tryz.func40 rfl rfl ?_
 conv => whnf
 refine VSeq.mk fun Kq hKq => ?_
 conv => whnf
 have hp := Hp.nil W
 refine hp.kboxA fun q2 w hp hx => ?_
 conv => whnf
 refine hKq _ _ _ (.refl _) ?_
 clear hKq Kq
 conv => whnf
 refine VSeq.mk fun Kq hKq => ?_
 conv => whnf
 (refine ⟨_, _, Blk.ldV (vs := [_, _, _, _, _, _, _, _, _, _, _, _, _]) (hp.get (i := 0) rfl) TTok rfl rfl rfl, ?_⟩; conv => whnf)
 (refine ⟨_, _, bld87_0 _ _ _ _ _ _ _ _ _ _ _ _ _ _, ?_⟩; conv => whnf)
 (refine hp.kboxA fun q w hp hx => ?_; conv => whnf)
 (refine hKq _ _ _ (.refl _) ?_; clear hKq Kq; conv => whnf)
 (refine VSeq.mk fun Kq hKq => ?_; conv => whnf)
 (refine VSeq.mk fun Kq hKq => ?_; conv => whnf)
 refine V.CallsUse (valid_c (v := .slice p asked.length c) (out := .slice none 0 0) _ hok (hp.get (i := 0) rfl) (hv.ext hp.ext)) fun w hx => ?_
 have hp := hp.call hx
 conv => whnf
 rw [hw]
 (refine hKq _ _ _ (.refl _) ?_; clear hKq Kq; conv => whnf)
 (refine And.intro (fun _ => ?_) (fun h => absurd h (by decide)); conv => whnf)
 (refine VSeq.mk fun Kq hKq => ?_; conv => whnf)
 (refine hKq _ _ _ (.refl _) ?_; clear hKq Kq; conv => whnf)
 (exact ⟨rfl, hp.ext⟩)
theorem start_n {W : World} {v : Value} (x : Wt) (hok : x.Ok) (hv : SLv W v (iv x.asked)) (now : Int) (hw : wtB x = true) (hn : inB now x.now 1099511627776 = false) :
  Calls Tryz.prog 40 #[.agg (x.c v).toArray, .int .i64 now] W fun e w' => e = .returned (.tuple #[.pointer none, .int .i64 2]) ∧ Ext W w' := by
 obtain ⟨⟨ah, ap⟩, ⟨bh, bp⟩, now0, nxt, til, ser, gone, noise, word, fresh, asked⟩ := x
 have hok2 := hok
 obtain ⟨ha, hb', _, _, _, _, _, hwo, hfr, _, hln⟩ := hok2
 dsimp only [Wt.c] at hv hln hw hn ⊢
 have hsl : (iv asked).length = asked.length := List.length_map _
 obtain ⟨p, c, rfl⟩ := hv.shape
 rw [hsl] at hv ⊢
 have hI := cwithin_p now now0 1099511627776
 rw [hn] at hI
 refine v_reads (args := [.agg #[.string ah, .int .i64 ap, .string bh, .int .i64 bp, .int .i64 now0, .int .i64 nxt, .int .i64 til, .int .i64 ser, .bool gone, .string noise, .string word, .string fresh, .slice p asked.length c], .int .i64 now]) TTok FFok Tryz.func40 rfl rfl ?_
 conv => whnf
 refine VSeq.mk fun Kq hKq => ?_
 conv => whnf
 have hp := Hp.nil W
 refine hp.kboxA fun q2 w hp hx => ?_
 conv => whnf
 refine hKq _ _ _ (.refl _) ?_
 clear hKq Kq
 conv => whnf
 refine VSeq.mk fun Kq hKq => ?_
 conv => whnf
 (refine ⟨_, _, Blk.ldV (vs := [_, _, _, _, _, _, _, _, _, _, _, _, _]) (hp.get (i := 0) rfl) TTok rfl rfl rfl, ?_⟩; conv => whnf)
 (refine ⟨_, _, bld87_0 _ _ _ _ _ _ _ _ _ _ _ _ _ _, ?_⟩; conv => whnf)
 (refine hp.kboxA fun q w hp hx => ?_; conv => whnf)
 (refine hKq _ _ _ (.refl _) ?_; clear hKq Kq; conv => whnf)
 (refine VSeq.mk fun Kq hKq => ?_; conv => whnf)
 (refine VSeq.mk fun Kq hKq => ?_; conv => whnf)
 refine V.CallsUse (valid_c (v := .slice p asked.length c) (out := .slice none 0 0) _ hok (hp.get (i := 0) rfl) (hv.ext hp.ext)) fun w hx => ?_
 have hp := hp.call hx
 conv => whnf
 rw [hw]
 (refine hKq _ _ _ (.refl _) ?_; clear hKq Kq; conv => whnf)
 (refine And.intro (fun h => absurd h (by decide)) (fun _ => ?_); conv => whnf)
 (refine hKq _ _ _ (.refl _) ?_; clear hKq Kq; conv => whnf)
 (refine VSeq.mk fun Kq hKq => ?_; conv => whnf)
 (refine VSeq.mk fun Kq hKq => ?_; conv => whnf)
 (refine ⟨_, _, Blk.ld (hp.get (i := 1) rfl) TTok rfl rfl, ?_⟩; conv => whnf)
 (refine V.CallW.out ?_; (conv => arg 3; dsimp only [EV.val, List.toList_toArray, List.nil_append, List.append_nil, List.cons_append]); refine V.PureF.useW (hI) fun w hx => ?_; try (have hp := hp.call hx); conv => whnf)
 (refine hKq _ _ _ (.refl _) ?_; clear hKq Kq; conv => whnf)
 (refine And.intro (fun _ => ?_) (fun h => absurd h (by decide)); conv => whnf)
 (refine VSeq.mk fun Kq hKq => ?_; conv => whnf)
 (refine hKq _ _ _ (.refl _) ?_; clear hKq Kq; conv => whnf)
 (exact ⟨rfl, hp.ext⟩)
theorem start_t {W : World} {v : Value} (x : Wt) (hok : x.Ok) (hv : SLv W v (iv x.asked)) (now : Int) (hw : wtB x = true) (hn : inB now x.now 1099511627776 = true) (hl : x.asked.length ≤ 100000) :
  Calls Tryz.prog 40 #[.agg (x.c v).toArray, .int .i64 now] W fun e w' => ∃ y, e = .returned y ∧ ∃ q u, y = .tuple #[.pointer (some ⟨q, 0, none⟩), .int .i64 0] ∧ HpM [] W w' [blk q (gC x u (.slice none 0 0)) 87, row 3 1 u x.asked.length (iv x.asked)] := by
 obtain ⟨⟨ah, ap⟩, ⟨bh, bp⟩, now0, nxt, til, ser, gone, noise, word, fresh, asked⟩ := x
 have hok2 := hok
 obtain ⟨ha, hb', _, _, _, _, _, hwo, hfr, _, hln⟩ := hok2
 dsimp only [Wt.c] at hv hln hw hn hl ⊢
 have hsl : (iv asked).length = asked.length := List.length_map _
 obtain ⟨p, c, rfl⟩ := hv.shape
 rw [hsl] at hv ⊢
 have hI := cwithin_p now now0 1099511627776
 rw [hn] at hI
 refine v_fn (args := [.agg #[.string ah, .int .i64 ap, .string bh, .int .i64 bp, .int .i64 now0, .int .i64 nxt, .int .i64 til, .int .i64 ser, .bool gone, .string noise, .string word, .string fresh, .slice p asked.length c], .int .i64 now]) TTok FFok Tryz.func40 rfl (Nat.le_of_ble_eq_true rfl) ?_
 conv => whnf
 refine VSeq.mk fun Kq hKq => ?_
 conv => whnf
 have hp := Hp.nil W
 refine hp.kboxA fun q2 w hp hx => ?_
 conv => whnf
 refine hKq _ _ _ (.refl _) ?_
 clear hKq Kq
 conv => whnf
 refine VSeq.mk fun Kq hKq => ?_
 conv => whnf
 (refine ⟨_, _, Blk.ldV (vs := [_, _, _, _, _, _, _, _, _, _, _, _, _]) (hp.get (i := 0) rfl) TTok rfl rfl rfl, ?_⟩; conv => whnf)
 (refine ⟨_, _, bld87_0 _ _ _ _ _ _ _ _ _ _ _ _ _ _, ?_⟩; conv => whnf)
 (refine hp.kboxA fun q w hp hx => ?_; conv => whnf)
 (refine hKq _ _ _ (.refl _) ?_; clear hKq Kq; conv => whnf)
 (refine VSeq.mk fun Kq hKq => ?_; conv => whnf)
 (refine VSeq.mk fun Kq hKq => ?_; conv => whnf)
 refine V.CallsUse (valid_c (v := .slice p asked.length c) (out := .slice none 0 0) _ hok (hp.get (i := 0) rfl) (hv.ext hp.ext)) fun w hx => ?_
 have hp := hp.call hx
 conv => whnf
 rw [hw]
 (refine hKq _ _ _ (.refl _) ?_; clear hKq Kq; conv => whnf)
 (refine And.intro (fun h => absurd h (by decide)) (fun _ => ?_); conv => whnf)
 (refine hKq _ _ _ (.refl _) ?_; clear hKq Kq; conv => whnf)
 (refine VSeq.mk fun Kq hKq => ?_; conv => whnf)
 (refine VSeq.mk fun Kq hKq => ?_; conv => whnf)
 (refine ⟨_, _, Blk.ld (hp.get (i := 1) rfl) TTok rfl rfl, ?_⟩; conv => whnf)
 (refine V.CallW.out ?_; (conv => arg 3; dsimp only [EV.val, List.toList_toArray, List.nil_append, List.append_nil, List.cons_append]); refine V.PureF.useW (hI) fun w hx => ?_; try (have hp := hp.call hx); conv => whnf)
 (refine hKq _ _ _ (.refl _) ?_; clear hKq Kq; conv => whnf)
 (refine And.intro (fun h => absurd h (by decide)) (fun _ => ?_); conv => whnf)
 (refine hKq _ _ _ (.refl _) ?_; clear hKq Kq; conv => whnf)
 (refine VSeq.mk fun Kq hKq => ?_; conv => whnf)
 (refine ⟨_, _, Blk.ld (hp.get (i := 1) rfl) TTok rfl rfl, ?_⟩; conv => whnf)
 refine Calls.mono (CloneI_c (hv.ext hp.ext) hl) ?_
 rintro _ w ⟨u, rfl, k2⟩
 refine ⟨_, rfl, ?_⟩
 have hp := hp.join k2
 simp only [List.cons_append, List.nil_append] at hp
 obtain ⟨pu, cu, rfl⟩ := row_shape (hp.get (i := 0) rfl)
 conv => whnf
 (refine hp.kst1 TTok (by rfl) 1 (by rfl) (by rfl) (by rfl) (Nat.le_of_ble_eq_true rfl) fun w hp => ?_; try simp only [List.set_cons_zero, List.set_cons_succ, EV.val] at hp; conv => whnf)
 (refine hKq _ _ _ (.refl _) ?_; clear hKq Kq; conv => whnf)
 (refine VSeq.mk fun Kq hKq => ?_; conv => whnf)
 (refine hKq _ _ _ (.refl _) ?_; clear hKq Kq; conv => whnf)
 exact ⟨q, _, rfl, hp.pick [1, 0] (by decide)⟩
def goesB (x : Wt) (now : Int) : Bool := decide (x.til ≤ now) && !x.gone
def atW (x : Wt) (now : Int) : Wt := if goesB x now then { x with now := now, gone := true, asked := [], fresh := ⟨#[]⟩ } else { x with now := now }
theorem atW_t {x : Wt} {now : Int} (h : goesB x now = true) : atW x now = { x with now := now, gone := true, asked := [], fresh := ⟨#[]⟩ } := by unfold atW; rw [if_pos h]
theorem atW_f {x : Wt} {now : Int} (h : goesB x now = false) : atW x now = { x with now := now } := by unfold atW; rw [if_neg (by rw [h]; decide)]
theorem at_t {M : List Nat} {w0 w : World} {H : List It} {q : Nat} {v out : Value} (x : Wt) (now : Int) (hg : goesB x now = true) (hp : HpM M w0 w (blk q (gC x v out) 87 :: H)) :
  Calls Tryz.prog 44 #[.pointer (some ⟨q, 0, none⟩), .int .i64 now] w fun e w' => ∃ u, e = .returned u ∧ HpM M w0 w' (blk q (gC (atW x now) (.slice none 0 0) out) 87 :: H) := by
 rw [atW_t hg]
 obtain ⟨⟨ah, ap⟩, ⟨bh, bp⟩, now0, nxt, til, ser, gone, noise, word, fresh, asked⟩ := x
 unfold goesB at hg
 simp only [Bool.and_eq_true, decide_eq_true_eq, Bool.not_eq_true'] at hg
 obtain ⟨h1, rfl⟩ := hg
 dsimp only [gC] at hp ⊢
 refine v_fn (args := [.pointer (some ⟨q, 0, none⟩), .int .i64 now]) TTok FFok Tryz.func44 rfl (Nat.le_of_ble_eq_true rfl) ?_
 conv => whnf
 refine VSeq.mk fun Kq hKq => ?_
 conv => whnf
 (refine hp.kst1 TTok (by rfl) 0 (by rfl) (by rfl) (by rfl) (Nat.le_of_ble_eq_true rfl) fun w hp => ?_; try simp only [List.set_cons_zero, List.set_cons_succ, EV.val] at hp; conv => whnf)
 (refine hKq _ _ _ (.refl _) ?_; clear hKq Kq; conv => whnf)
 (refine VSeq.mk fun Kq hKq => ?_; conv => whnf)
 (refine VSeq.mk fun Kq hKq => ?_; conv => whnf)
 (refine ⟨_, _, Blk.ld (hp.get (i := 0) rfl) TTok rfl rfl, ?_⟩; conv => whnf)
 (refine hKq _ _ _ (.refl _) ?_; clear hKq Kq; conv => whnf)
 (refine And.intro (fun _ => ?_) (fun h => absurd (by first | rfl | assumption | omega | decide) (of_decide_eq_false h)); conv => whnf)
 (refine ⟨_, _, Blk.ld (hp.get (i := 0) rfl) TTok rfl rfl, ?_⟩; conv => whnf)
 (refine hKq _ _ _ (.refl _) ?_; clear hKq Kq; conv => whnf)
 (refine And.intro (fun _ => ?_) (fun h => absurd h (by decide)); conv => whnf)
 (refine hp.kst1 TTok (by rfl) 0 (by rfl) (by rfl) (by rfl) (Nat.le_of_ble_eq_true rfl) fun w hp => ?_; try simp only [List.set_cons_zero, List.set_cons_succ, EV.val] at hp; conv => whnf)
 (refine hp.kst1 TTok (by rfl) 0 (by rfl) (by rfl) (by rfl) (Nat.le_of_ble_eq_true rfl) fun w hp => ?_; try simp only [List.set_cons_zero, List.set_cons_succ, EV.val] at hp; conv => whnf)
 (refine hp.kst1 TTok (by rfl) 0 (by rfl) (by rfl) (by rfl) (Nat.le_of_ble_eq_true rfl) fun w hp => ?_; try simp only [List.set_cons_zero, List.set_cons_succ, EV.val] at hp; conv => whnf)
 exact hp
theorem at_f {M : List Nat} {w0 w : World} {H : List It} {q : Nat} {v out : Value} (x : Wt) (now : Int) (hg : goesB x now = false) (hp : HpM M w0 w (blk q (gC x v out) 87 :: H)) :
  Calls Tryz.prog 44 #[.pointer (some ⟨q, 0, none⟩), .int .i64 now] w fun e w' => ∃ u, e = .returned u ∧ HpM M w0 w' (blk q (gC (atW x now) v out) 87 :: H) := by
 rw [atW_f hg]
 obtain ⟨⟨ah, ap⟩, ⟨bh, bp⟩, now0, nxt, til, ser, gone, noise, word, fresh, asked⟩ := x
 unfold goesB at hg
 dsimp only [gC] at hp hg ⊢
 refine v_fn (args := [.pointer (some ⟨q, 0, none⟩), .int .i64 now]) TTok FFok Tryz.func44 rfl (Nat.le_of_ble_eq_true rfl) ?_
 conv => whnf
 refine VSeq.mk fun Kq hKq => ?_
 conv => whnf
 (refine hp.kst1 TTok (by rfl) 0 (by rfl) (by rfl) (by rfl) (Nat.le_of_ble_eq_true rfl) fun w hp => ?_; try simp only [List.set_cons_zero, List.set_cons_succ, EV.val] at hp; conv => whnf)
 (refine hKq _ _ _ (.refl _) ?_; clear hKq Kq; conv => whnf)
 (refine VSeq.mk fun Kq hKq => ?_; conv => whnf)
 (refine VSeq.mk fun Kq hKq => ?_; conv => whnf)
 (refine ⟨_, _, Blk.ld (hp.get (i := 0) rfl) TTok rfl rfl, ?_⟩; conv => whnf)
 (refine hKq _ _ _ (.refl _) ?_; clear hKq Kq; conv => whnf)
 refine ⟨fun h1 => ?_, fun h1 => ?_⟩
 ·have h1 := of_decide_eq_true h1
  conv => whnf
  rw [decide_eq_true h1] at hg
  cases gone with
  | true =>
   (refine ⟨_, _, Blk.ld (hp.get (i := 0) rfl) TTok rfl rfl, ?_⟩; conv => whnf)
   (refine hKq _ _ _ (.refl _) ?_; clear hKq Kq; conv => whnf)
   (refine And.intro (fun h => absurd h (by decide)) (fun _ => ?_); conv => whnf)
   exact hp
  | false => simp at hg
 ·have h1 := of_decide_eq_false h1
  conv => whnf
  refine hKq _ _ _ (.refl _) ?_
  clear hKq Kq
  conv => whnf
  skip
  exact hp
abbrev hopC (f t : Ad) (p : Prb) : List Value := [.string f.h, .int .i64 f.p, .string t.h, .int .i64 t.p, .int .i64 p.k, .int .i64 p.id, .int .i64 p.pr, .bool p.ct, .int .i64 p.ti, .bool p.no, .string p.m.h, .int .i64 p.m.p]
theorem send_c {M : List Nat} {w0 w : World} {H : List It} {q : Nat} {v : Value} (x : Wt) (a : Prb) (hp : HpM M w0 w (blk q (gC x v (.slice none 0 0)) 87 :: H)) :
  Calls Tryz.prog 45 #[.pointer (some ⟨q, 0, none⟩), .agg a.c.toArray] w fun e w' => ∃ u, e = .returned u ∧ ∃ o, HpM M w0 w' (blk q (gC x v o) 87 :: row 63 12 o 1 (hopC x.a x.b a) :: H) := by
 obtain ⟨⟨ah, ap⟩, ⟨bh, bp⟩, now0, nxt, til, ser, gone, noise, word, fresh, asked⟩ := x
 obtain ⟨k, id, pr, ct, ti, no, ⟨mh, mp⟩⟩ := a
 dsimp only [gC, Prb.c] at hp ⊢
 refine v_fn (args := [.pointer (some ⟨q, 0, none⟩), .agg #[.int .i64 k, .int .i64 id, .int .i64 pr, .bool ct, .int .i64 ti, .bool no, .string mh, .int .i64 mp]]) TTok FFok Tryz.func45 rfl (Nat.le_of_ble_eq_true rfl) ?_
 conv => whnf
 refine VSeq.mk fun Kq hKq => ?_
 conv => whnf
 refine hp.kboxA fun q2 w hp hx => ?_
 conv => whnf
 refine hKq _ _ _ (.refl _) ?_
 clear hKq Kq
 conv => whnf
 refine v_mixF TTok FFok mixed 20 [0] [(1, false), (2, false), (3, false), (4, false), (5, false), (6, false), (7, false), (8, false), (9, false), (10, false), (11, false), (12, false), (13, false), (14, false), (15, false), (16, false), (17, false), (18, false), (19, true)] (by kernel_rfl) ?_
 conv => whnf
 (refine ⟨_, fun w' hx' => Blk.ld (Blk.ext (hp.get (i := 1) rfl) hx') TTok rfl rfl, ?_⟩; conv => whnf)
 (refine ⟨0, ⟨rfl, by decide⟩, ?_⟩; conv => whnf)
 (refine ⟨_, fun w' hx' => Blk.ldV (vs := [_, _]) (Blk.ext (hp.get (i := 1) rfl) hx') TTok rfl rfl rfl, ?_⟩; conv => whnf)
 (refine ⟨1, ⟨rfl, by decide⟩, ?_⟩; conv => whnf)
 (refine ⟨_, fun w' hx' => Blk.ldV (vs := [_, _]) (Blk.ext (hp.get (i := 1) rfl) hx') TTok rfl rfl rfl, ?_⟩; conv => whnf)
 (refine ⟨_, fun w' hx' => Blk.ldV (vs := [_, _, _, _, _, _, _, _]) (Blk.ext (hp.get (i := 0) rfl) hx') TTok rfl rfl rfl, ?_⟩; conv => whnf)
 (refine ⟨_, fun w' hx' => bld63_0_1_2 w' _ _ _ _ _ _ _ _ _ _ _ _, ?_⟩; conv => whnf)
 (intro w hx; try (have hp := hp.call hx); conv => whnf)
 (refine hp.kmade _ _ (fun b => .slice (some ⟨b, 0, none⟩) 1 1) (mks55_1_0 _ _ _ _ _ _ _ _ _ _ _ _ _) fun q w hp hx => ?_; conv => whnf)
 (with_reducible refine And.intro hx ?_; conv => whnf)
 (intro w hx; try (have hp := hp.call hx); conv => whnf)
 have hp := hp.knil 63 12
 refine hp.kapp sl55 0 rfl (Blk.src TTok (hp.get (i := 1) rfl) rfl (m := 1) rfl (oneC_of rfl)) (by decide) (by decide) fun v' w hp => ?_
 simp only [List.set_cons_zero, List.set_cons_succ] at hp
 obtain ⟨p1, c1, rfl⟩ := row_shape (hp.get (i := 0) rfl)
 conv => whnf
 refine hp.kst1 (off := 13) TTok (by rfl) 3 (by rfl) (by rfl) (by rfl) (Nat.le_of_ble_eq_true rfl) fun w hp => ?_
 try simp only [List.set_cons_zero, List.set_cons_succ, EV.val] at hp
 conv => whnf
 exact ⟨_, hp.pickH (L := [_, _, _, _]) [3, 0] (by decide)⟩
open Go.RowKit
namespace V
/-- Block b is a map of integers that holds just these entries, the oldest first. -/
def MPs (w : World) (b : Nat) (kvs : List (Int × Value)) : Prop := ∃ (es : Array MapEntry) (clock : Nat), w.heap[b]? = some (.map es clock) ∧ es.toList.map (fun e => (e.key, e.val)) = kvs.map fun p => (Value.int .i64 p.1, p.2)
def mp (b : Nat) (kvs : List (Int × Value)) : It := ⟨some b, fun w => MPs w b kvs⟩
theorem mp_ok (b : Nat) (kvs : List (Int × Value)) : (mp b kvs).Ok := fun w w' _ h hh => by
 obtain ⟨es, c, h1, h2⟩ := hh
 exact ⟨es, c, (h b rfl).trans h1, h2⟩
theorem find_mp (k : Int) : ∀ (l : List MapEntry) (kvs : List (Int × Value)) (i : Nat), l.map (fun e => (e.key, e.val)) = kvs.map (fun p => (Value.int .i64 p.1, p.2)) →
  (∃ r, Instr.findNow (.int .i64) (.int .i64 k) l i = some r ∧ (r.map (·.2)) = (kvs.find? fun p => decide (p.1 = k)).map (·.2))
 | [], [], i, _ => ⟨none, rfl, rfl⟩
 | e :: l, [], i, h => by simp at h
 | [], p :: kvs, i, h => by simp at h
 | e :: l, p :: kvs, i, h => by
  simp only [List.map_cons, List.cons.injEq, Prod.mk.injEq] at h
  obtain ⟨⟨hk, hv⟩, ht⟩ := h
  obtain ⟨r, hr, hr2⟩ := find_mp k l kvs (i + 1) ht
  by_cases e1 : p.1 = k
  ·refine ⟨some (i, e.val), ?_, ?_⟩
   ·subst e1
    simp [Instr.findNow, Instr.sameNow, hk]
   ·simp [List.find?_cons, e1, hv]
  ·refine ⟨r, ?_, ?_⟩
   ·have e2 : (k == p.1) = false := by simp; exact fun h => e1 h.symm
    simp [Instr.findNow, Instr.sameNow, hk, e2, hr]
   ·rw [hr2, List.find?_cons, decide_eq_false e1]
theorem find_mp' {k : Int} {l : List MapEntry} {kvs : List (Int × Value)} (h : l.map (fun e => (e.key, e.val)) = kvs.map (fun p => (Value.int .i64 p.1, p.2))) (hn : (kvs.find? fun p => decide (p.1 = k)) = none) : Instr.findNow (.int .i64) (.int .i64 k) l 0 = some none := by
 obtain ⟨r, hr, h2⟩ := find_mp k l kvs 0 h
 rw [hn] at h2
 cases r with
 | none => exact hr
 | some a => simp at h2
section
variable {P : Program} {T : Tab} {M : List Nat} {w0 w : World} {H : List It} {K : Value → World → Prop}
theorem HpM.kmap (h : HpM M w0 w H) {t : Nat} (hk : ∀ b w', HpM M w0 w' (mp b [] :: H) → Ext w w' → K (.map (some b)) w') : ∃ u w', (Instr.makeMap t none).run P w = .ok u w' ∧ K u w' := by
 have hr : (Instr.makeMap t none).run P w = .ok (.map (some w.heap.size)) (w.alloc (.map #[] 0)) := by
  simp [Instr.makeMap, Result.andThen]
 have hx : Ext w (w.alloc (.map #[] 0)) := (Ext.refl w).alloc _
 refine ⟨_, _, hr, hk _ _ (h.push hx (mp_ok _ _) ⟨#[], 0, (MapKept.heap_alloc w _).1, rfl⟩ ?_) hx⟩
 intro b hb
 simp only [mp, Option.some.injEq] at hb
 subst hb
 exact ⟨Nat.le_refl _, by simp⟩
/-- a new key -/
theorem HpM.kins (h : HpM M w0 w H) {t kt et : Nat} (ht : P.underlying t = some (.map kt et)) (hkt : P.underlying kt = some (.int .i64)) (i : Nat) {b : Nat} {kvs : List (Int × Value)} (hi : H[i]? = some (mp b kvs)) {k : Int} {v : Value}
  (hn : (kvs.find? fun p => decide (p.1 = k)) = none) (hk : ∀ w', HpM M w0 w' (H.set i (mp b (kvs ++ [(k, v)]))) → K undef w') :
  ∃ u w', (do Instr.mapUpdate t (.map (some b)) (.int .i64 k) v; Pure.pure undef : Sem Value).run P w = .ok u w' ∧ K u w' := by
 obtain ⟨es, clock, hb, hes⟩ : MPs w b kvs := h.get hi
 have hf := find_mp' hes hn
 have hr : (Instr.mapUpdate t (.map (some b)) (.int .i64 k) v).run P w = .ok () { w with heap := w.heap.setIfInBounds b (.map (es.push { key := .int .i64 k, val := v, born := clock }) (clock + 1)) } := by
  simp only [Instr.mapUpdate, Sem.run_bind, Go.Proofs.YtgkhcgiggjijlaaGreat.V.run_underlying ht, Result.andThen, MapKept.run_getObj_map hb, MapKept.run_checkKey hkt (show MapKept.IsKey (.int .i64) (.int .i64 k) from rfl), MapKept.run_findKey hkt hf]
  exact MapKept.run_setObj_map _ hb
 have hset := MapKept.heap_set hb (o' := .map (es.push { key := .int .i64 k, val := v, born := clock }) (clock + 1))
 have hg : w.grownBy { w with heap := w.heap.setIfInBounds b (.map (es.push { key := .int .i64 k, val := v, born := clock }) (clock + 1)) } (mp b kvs).own :=
  ⟨rfl, rfl, rfl, by simp, fun j hj hne => hset.2 j (fun e => hne (by rw [e]; rfl))⟩
 have hr2 : (do Instr.mapUpdate t (.map (some b)) (.int .i64 k) v; Pure.pure undef : Sem Value).run P w = .ok undef { w with heap := w.heap.setIfInBounds b (.map (es.push { key := .int .i64 k, val := v, born := clock }) (clock + 1)) } := by
  rw [Sem.run_bind, hr]
  simp [Result.andThen]
 exact ⟨_, _, hr2, hk _ (h.upd hi hg (mp_ok _ _) ⟨_, _, hset.1, by simp [hes]⟩ (fun b' hb' => .inl hb'))⟩
/-- a key is looked up -/
theorem MPs.look {b : Nat} {kvs : List (Int × Value)} (h : MPs w b kvs) {t kt et : Nat} (ht : P.underlying t = some (.map kt et)) (hkt : P.underlying kt = some (.int .i64)) {z : Value} (hz : (zeroValue et).run P w = .ok z w) (k : Int) (ok : Bool) :
  (Instr.lookup t (.map (some b)) (.int .i64 k) ok).run P w = .ok (match kvs.find? fun p => decide (p.1 = k) with
   | some p => if ok then .tuple #[p.2, .bool true] else p.2
   | none => if ok then .tuple #[z, .bool false] else z) w := by
 obtain ⟨es, clock, hb, hes⟩ := h
 obtain ⟨r, hr, h2⟩ := find_mp k es.toList kvs 0 hes
 simp only [Instr.lookup, Sem.run_bind, Go.Proofs.YtgkhcgiggjijlaaGreat.V.run_underlying ht, Result.andThen, MapKept.run_getObj_map hb, Sem.run_pure, MapKept.run_checkKey hkt (show MapKept.IsKey (.int .i64) (.int .i64 k) from rfl), MapKept.run_findKey hkt hr]
 cases hf : kvs.find? fun p => decide (p.1 = k) with
 | none =>
  rw [hf] at h2
  cases r with
  | none => simp [hz, Result.andThen]
  | some a => simp at h2
 | some p =>
  rw [hf] at h2
  cases r with
  | none => simp at h2
  | some a =>
   have : a.2 = p.2 := by simpa using h2
   simp [Result.andThen, this]
end
end V
set_option maxHeartbeats 1600000
def isB (id : Int) (a : Int) : Bool := decide (a = id)
def idxJ (id : Int) (l : List Int) : Int := match l.findIdx? (isB id) with
 | some i => (i : Nat)
 | none => -1
def afterL (id : Int) (l : List Int) : Option (List Int) := (l.findIdx? (isB id)).map fun i => l.drop (i + 1)
theorem idxJ_hit {k : Int} {al : List Int} {i : Nat} {a : Int} (ha : al[i]? = some a) (hb : isB k a = true) (hn : ∀ b ∈ al.take i, isB k b = false) : idxJ k al = i := by
 unfold idxJ
 obtain ⟨hi, rfl⟩ := List.getElem?_eq_some_iff.1 ha
 have : al.findIdx? (isB k) = some i := List.findIdx?_eq_some_iff_getElem.2 ⟨hi, hb, fun j hj => by
  have := hn al[j] (List.mem_take_iff_getElem.2 ⟨j, by omega, rfl⟩)
  rw [this]; decide⟩
 rw [this]
theorem idxJ_miss {k : Int} {al : List Int} (hn : ∀ b ∈ al, isB k b = false) : idxJ k al = -1 := by
 unfold idxJ
 have : al.findIdx? (isB k) = none := List.findIdx?_eq_none_iff.2 hn
 rw [this]
theorem ans1_c {W : World} {qh : Nat} {f t : Ad} {p : Prb} (x : Int) (hk : Blk W qh (hopC f t p) 63) :
  Calls Tryz.prog 60 #[.int .i64 x, .pointer (some ⟨qh, 0, none⟩)] W fun e w' => e = .returned (.bool (decide (x = p.id))) ∧ Ext W w' := by
 obtain ⟨k, id, pr, ct, ti, no, ⟨mh, mp⟩⟩ := p
 dsimp only [hopC] at hk ⊢
 refine v_reads (args := [.int .i64 x, .pointer (some ⟨qh, 0, none⟩)]) TTok FFok Tryz.func60 rfl rfl ?_
 conv => whnf
 refine VSeq.mk fun Kq hKq => ?_
 conv => whnf
 refine hKq _ _ _ (.refl _) ?_
 clear hKq Kq
 conv => whnf
 refine VSeq.mk fun Kq hKq => ?_
 conv => whnf
 have hp := Hp.nil W
 (refine ⟨_, _, Blk.ld (Blk.ext hk hp.ext) TTok rfl rfl, ?_⟩; conv => whnf)
 (refine hKq _ _ _ (.refl _) ?_; clear hKq Kq; conv => whnf)
 (exact ⟨rfl, hp.ext⟩)
theorem idxAns_c {W : World} {v : Value} {al : List Int} {qh : Nat} {f t : Ad} {pb : Prb} (hml : al.length ≤ maxLen) (hv : SLv W v (iv al)) (hk : Blk W qh (hopC f t pb) 63) :
  Calls Tryz.prog 68 #[v, .func (.func 60) #[] #[.pointer (some ⟨qh, 0, none⟩)]] W fun e w' => e = .returned (.int .i64 (idxJ pb.id al)) ∧ Ext W w' := by
 have hsl : (iv al).length = al.length := List.length_map _
 unfold maxLen at hml
 obtain ⟨p, c, rfl⟩ := hv.shape
 rw [hsl] at hv ⊢
 refine v_reads (args := [.slice p al.length c, .func (.func 60) #[] #[.pointer (some ⟨qh, 0, none⟩)]]) TTok FFok Tryz.func68 rfl rfl ?_
 conv => whnf
 refine VSeq.mk fun Kq hKq => ?_
 conv => whnf
 refine hKq _ _ _ (.refl _) ?_
 clear hKq Kq
 conv => whnf
 refine VSeq.mk fun Kq hKq => ?_
 conv => whnf
 refine VSeq.mk fun Kq hKq => ?_
 conv => whnf
 refine hKq _ _ _ (.refl _) ?_
 clear hKq Kq
 conv => whnf
 refine ⟨fun mm e w' => ∃ (i : Nat), mm + i = al.length ∧ e = [(0, .v (.slice p al.length c)), (1, .v (.func (.func 60) #[] #[.pointer (some ⟨qh, 0, none⟩)])), (7, .v (.int .i64 al.length)), (8, .v (.int .i64 i))] ∧ (∀ b ∈ al.take i, isB pb.id b = false) ∧ Ext W w',
  ⟨al.length, _, ⟨0, by omega, rfl, by simp, Ext.refl _⟩, sub_cons rfl (sub_cons rfl (sub_cons rfl (sub_cons rfl sub_nil)))⟩, ?_⟩
 rintro mm _ w ⟨i, hmm, rfl, hn, hxw⟩
 conv => whnf
 refine VSeq.mk fun Kq hKq => ?_
 conv => whnf
 refine hKq _ _ _ (.refl _) ?_
 clear hKq Kq
 conv => whnf
 refine VSeq.mk fun Kq hKq => ?_
 conv => whnf
 refine ⟨fun hlt => ?_, fun hlt => ?_⟩
 ·have hlt := of_decide_eq_true hlt
  conv => whnf
  refine hKq _ _ _ (.refl _) ?_
  clear hKq Kq
  conv => whnf
  refine VSeq.mk fun Kq hKq => ?_
  conv => whnf
  refine VSeq.mk fun Kq hKq => ?_
  conv => whnf
  refine hKq _ _ _ (.refl _) ?_
  clear hKq Kq
  conv => whnf
  refine VSeq.mk fun Kq hKq => ?_
  conv => whnf
  have hp := HpM.nil0 [] w
  obtain ⟨a, ha⟩ : ∃ a, al[i]? = some a := ⟨al[i]'(by omega), List.getElem?_eq_getElem (by omega)⟩
  obtain ⟨g, off, rfl, hld⟩ := (hv.ext hxw).at (j := i) (x := .int .i64 a) (by rw [List.getElem?_map, ha]; rfl)
  rw [Nat.add_comm] at hld
  refine ⟨i, ⟨by first | rfl | omega, by show i < al.length; omega⟩, ?_⟩
  conv => whnf
  refine ⟨_, _, run_ld TTok rfl hld, ?_⟩
  conv => whnf
  refine V.CallsUse (ans1_c a (Blk.ext hk hxw)) fun w hx => ?_
  try (have hp := hp.call hx)
  conv => whnf
  refine hKq _ _ _ (.refl _) ?_
  clear hKq Kq
  conv => whnf
  refine ⟨fun hq => ?_, fun hq => ?_⟩
  ·have hq := of_decide_eq_true hq
   conv => whnf
   refine VSeq.mk fun Kq hKq => ?_
   conv => whnf
   refine hKq _ _ _ (.refl _) ?_
   clear hKq Kq
   conv => whnf
   have hb : isB pb.id a = true := decide_eq_true hq
   have hI := idxJ_hit ha hb hn
   conv => whnf
   exact ⟨by rw [hI]; rfl, hxw.trans hx⟩
  ·have hq := of_decide_eq_false hq
   conv => whnf
   refine hKq _ _ _ (.refl _) ?_
   clear hKq Kq
   conv => whnf
   refine Or.inl (And.intro (by omega) ?_)
   conv => whnf
   have hb : isB pb.id a = false := decide_eq_false hq
   refine ⟨mm - 1, _, by omega, ⟨i + 1, by omega, rfl, fun b hbm => ?_, hxw.trans hx⟩, sub_cons rfl (sub_cons rfl (sub_cons rfl (sub_cons rfl sub_nil)))⟩
   rw [List.take_add_one, ha] at hbm
   rcases List.mem_append.1 hbm with h | h
   ·exact hn b h
   ·have : b = a := by simpa using h
    rw [this]; exact hb
 ·have hlt := of_decide_eq_false hlt
  conv => whnf
  clear hKq Kq
  refine hKq _ _ _ (.refl _) ?_
  clear hKq Kq
  conv => whnf
  refine VSeq.mk fun Kq hKq => ?_
  conv => whnf
  refine hKq _ _ _ (.refl _) ?_
  clear hKq Kq
  conv => whnf
  obtain rfl : i = al.length := by omega
  rw [List.take_of_length_le (Nat.le_refl _)] at hn
  have hI := idxJ_miss hn
  conv => whnf
  exact ⟨by rw [hI]; rfl, hxw⟩
/-- a value whose block (if any) is not of the world W -/
def FreshV (W : World) (v : Value) : Prop := ∀ a n c, v = .slice (some a) n c → W.heap.size ≤ a.block
/-- a slice that reads as a list, in a block that is not of the world W -/
structure SLw (W w : World) (v : Value) (xs : List Value) : Prop where
 s : SLv w v xs
 f : FreshV W v
theorem SLw.nil {W w : World} : SLw W w (.slice none 0 0) [] := ⟨SLv.nil, fun a n c h => by simp at h⟩
theorem SLw.shape {W w : World} {v : Value} {xs : List Value} (h : SLw W w v xs) : ∃ p c, v = .slice p xs.length c := h.s.shape
theorem SLw.row {W w : World} {H : List It} {e n : Nat} {v : Value} {xs : List Value} (hp : HpM [] W w H) {i : Nat} (hi : H[i]? = some (row e 1 v n xs)) : SLw W w v xs :=
 ⟨SLv.of_row (hp.get hi), fun a n' c h => by
  subst h
  have := (hp.lo _ (List.mem_of_getElem? hi) a.block rfl).1
  simpa using this⟩
theorem _root_.Go.Proofs.YtgkhcgiggjijlaaGreat.V.SLv.w0 {w : World} {v : Value} {xs : List Value} (h : SLv w v xs) : SLw { w with heap := #[] } w v xs := ⟨h, fun _ _ _ _ => Nat.zero_le _⟩
theorem SLw.ext {W w w' : World} {v : Value} {xs : List Value} (h : SLw W w v xs) (hx : Ext w w') : SLw W w' v xs := ⟨h.s.ext hx, h.f⟩
theorem lo_fresh {w : World} {v v' : Value} {xs : List Value} (h : SLv w v xs) {b : Nat} (hb : b ≤ xs.length) (hr : (Instr.sliceAt 32 v (some (.int .i64 (b : Int))) none none).run Tryz.prog w = .ok v' w) {W : World} (hf : FreshV W v) : FreshV W v' := by
 rcases h with ⟨rfl, a, c, rfl⟩ | ⟨g, off, c, rfl, hle, hc⟩
 ·have : b = 0 := by simpa using hb
  subst this
  obtain ⟨v2, h3, h4⟩ := (SLv.lo (P := Tryz.prog) TTok (t := 32) rfl rfl (w := w) (v := .slice a 0 c) (xs := []) (.inl ⟨rfl, _, _, rfl⟩) 0 (Nat.le_refl _))
  have e := hr.symm.trans (h3 .i64 w)
  have e : v' = v2 := by injection e
  subst e
  have h5 : (Instr.sliceAt 32 (.slice a 0 c) (some (.int .i64 ((0 : Nat) : Int))) none none).run Tryz.prog w = .ok (.slice a 0 c) w := by
   simp only [Instr.sliceAt, Instr.slice, Instr.sliceBounds, Sem.run_bind, Sem.run_pure, V.run_underlying (tab_slice TTok (t := 32) (e := 3) rfl), Result.andThen]
   rw [run_bound (P := Tryz.prog) (Nat.zero_le _)]
   simp only [Result.andThen, Sem.run_pure, tab_size TTok (t := 3) (n := 1) rfl]
   cases a <;> simp [Addr.add]
  have e := hr.symm.trans h5
  have e : v' = .slice a 0 c := by injection e
  rw [e]; exact hf
 ·have h5 := run_slice_lo (P := Tryz.prog) TTok (t := 32) rfl rfl (k := .i64) (w := w) (b := g) (off := off) (n := xs.length) (cap := c) b hb
  have e := hr.symm.trans h5
  have e := (Result.ok.inj e).1
  rw [e]
  intro a n c2 hh
  have h0 := hf ⟨g, off, none⟩ _ _ rfl
  simp only [Value.slice.injEq, Option.some.injEq] at hh
  rw [← hh.1]; exact h0
/-- the rest of a slice, as a value -/
theorem lo_val {w : World} {v : Value} {xs : List Value} (h : SLv w v xs) (b : Nat) (hb : b ≤ xs.length) :
  ∃ v', (∀ (k : IntKind) w', (Instr.sliceAt 32 v (some (.int k (b : Int))) none none).run Tryz.prog w' = .ok v' w') ∧ ∀ {W} w2, SLw W w2 v xs → SLw W w2 v' (xs.drop b) := by
 obtain ⟨v', h1, _⟩ := h.lo (P := Tryz.prog) TTok (t := 32) rfl rfl b hb
 refine ⟨v', h1, fun w2 h2 => ?_⟩
 obtain ⟨v2, h3, h4⟩ := h2.s.lo (P := Tryz.prog) TTok (t := 32) rfl rfl b hb
 have e := (h1 .i64 w2).symm.trans (h3 .i64 w2)
 have e : v' = v2 := by injection e
 refine ⟨by rw [e]; exact h4, ?_⟩
 exact lo_fresh h2.s hb (h1 .i64 w2) h2.f
theorem after_n {W : World} {v : Value} {al : List Int} {qh : Nat} {f t : Ad} {pb : Prb} (hml : al.length ≤ maxLen) (hv : SLv W v (iv al)) (hk : Blk W qh (hopC f t pb) 63) (ha : afterL pb.id al = none) :
  Calls Tryz.prog 59 #[v, .func (.func 60) #[] #[.pointer (some ⟨qh, 0, none⟩)]] W fun e w' => e = .returned (.tuple #[v, .bool false]) ∧ Ext W w' := by
 have hI := idxAns_c hml hv hk
 have hj : idxJ pb.id al = -1 := by
  unfold afterL at ha
  unfold idxJ
  rw [Option.map_eq_none_iff.1 ha]
 rw [hj] at hI
 obtain ⟨p, c, rfl⟩ := hv.shape
 refine v_reads (args := [.slice p (iv al).length c, .func (.func 60) #[] #[.pointer (some ⟨qh, 0, none⟩)]]) TTok FFok Tryz.func59 rfl rfl ?_
 conv => whnf
 refine VSeq.mk fun Kq hKq => ?_
 conv => whnf
 refine hKq _ _ _ (.refl _) ?_
 clear hKq Kq
 conv => whnf
 refine VSeq.mk fun Kq hKq => ?_
 conv => whnf
 have hp := Hp.nil W
 (refine V.CallW.out ?_; (conv => arg 3; dsimp only [EV.val, List.toList_toArray, List.nil_append, List.append_nil, List.cons_append]); (with_reducible refine V.CallsUseW (hI) fun w hx => ?_); try (have hp := hp.call hx); conv => whnf)
 (refine hKq _ _ _ (.refl _) ?_; clear hKq Kq; conv => whnf)
 (refine VSeq.mk fun Kq hKq => ?_; conv => whnf)
 (refine VSeq.mk fun Kq hKq => ?_; conv => whnf)
 (refine hKq _ _ _ (.refl _) ?_; clear hKq Kq; conv => whnf)
 (refine And.intro (fun _ => ?_) (fun h => absurd (by first | rfl | assumption | omega | decide) (of_decide_eq_false h)); conv => whnf)
 (refine VSeq.mk fun Kq hKq => ?_; conv => whnf)
 (refine hKq _ _ _ (.refl _) ?_; clear hKq Kq; conv => whnf)
 (exact ⟨rfl, hp.ext⟩)
theorem after_s {W : World} {v : Value} {al r : List Int} {qh : Nat} {f t : Ad} {pb : Prb} (hml : al.length ≤ maxLen) (hv : SLv W v (iv al)) (hk : Blk W qh (hopC f t pb) 63) (ha : afterL pb.id al = some r) :
  Calls Tryz.prog 59 #[v, .func (.func 60) #[] #[.pointer (some ⟨qh, 0, none⟩)]] W fun e w' => ∃ u, e = .returned (.tuple #[u, .bool true]) ∧ Ext W w' ∧ ∀ {W2} w2, SLw W2 w2 v (iv al) → SLw W2 w2 u (iv r) := by
 have hI := idxAns_c hml hv hk
 have hsl : (iv al).length = al.length := List.length_map _
 unfold afterL at ha
 obtain ⟨i, hi, rfl⟩ := Option.map_eq_some_iff.1 ha
 have hj : idxJ pb.id al = i := by
  unfold idxJ
  rw [hi]
 have hil : i < al.length := (List.findIdx?_eq_some_iff_getElem.1 hi).choose
 have hdr : iv (al.drop (i + 1)) = (iv al).drop (i + 1) := List.map_drop
 unfold maxLen at hml
 rw [hj] at hI
 obtain ⟨v', hr, hs⟩ := lo_val hv (i + 1) (by rw [hsl]; omega)
 obtain ⟨p, c, rfl⟩ := hv.shape
 refine (v_fn (R := fun u w' => ∃ y, u = .tuple #[y, .bool true] ∧ Ext W w' ∧ ∀ {W2} w2, SLw W2 w2 (.slice p (iv al).length c) (iv al) → SLw W2 w2 y (iv (al.drop (i + 1)))) (args := [.slice p (iv al).length c, .func (.func 60) #[] #[.pointer (some ⟨qh, 0, none⟩)]]) TTok FFok Tryz.func59 rfl (Nat.le_of_ble_eq_true rfl) ?_).mono ?_
 rotate_left
 ·rintro e w' ⟨_, rfl, y, rfl, h⟩; exact ⟨y, rfl, h⟩
 conv => whnf
 refine VSeq.mk fun Kq hKq => ?_
 conv => whnf
 refine hKq _ _ _ (.refl _) ?_
 clear hKq Kq
 conv => whnf
 refine VSeq.mk fun Kq hKq => ?_
 conv => whnf
 have hp := Hp.nil W
 (refine V.CallW.out ?_; (conv => arg 3; dsimp only [EV.val, List.toList_toArray, List.nil_append, List.append_nil, List.cons_append]); (with_reducible refine V.CallsUseW (hI) fun w hx => ?_); try (have hp := hp.call hx); conv => whnf)
 (refine hKq _ _ _ (.refl _) ?_; clear hKq Kq; conv => whnf)
 (refine VSeq.mk fun Kq hKq => ?_; conv => whnf)
 (refine VSeq.mk fun Kq hKq => ?_; conv => whnf)
 (refine hKq _ _ _ (.refl _) ?_; clear hKq Kq; conv => whnf)
 (refine And.intro (fun h => absurd (of_decide_eq_true h) (by first | (intro h2; exact absurd rfl h2) | omega | decide)) (fun _ => ?_); conv => whnf)
 (refine hKq _ _ _ (.refl _) ?_; clear hKq Kq; conv => whnf)
 (refine VSeq.mk fun Kq hKq => ?_; conv => whnf)
 (refine Or.inl (And.intro (by first | omega | decide) ?_); conv => whnf)
 refine ⟨_, _, hr _ w, ?_⟩
 conv => whnf
 refine hKq _ _ _ (.refl _) ?_
 clear hKq Kq
 conv => whnf
 exact ⟨_, rfl, hp.ext, fun w2 h2 => by rw [hdr]; exact hs w2 h2⟩
/-- the guard takes an answer -/
theorem answered_s {M : List Nat} {w0 w : World} {H : List It} {q : Nat} {v out : Value} {r : List Int} (x : Wt) (f t : Ad) (pb : Prb) (hml : x.asked.length ≤ maxLen) (hn : In64 (x.now + 30000)) (hv : SLv w v (iv x.asked)) (ha : afterL pb.id x.asked = some r) (hp : HpM M w0 w (blk q (gC x v out) 87 :: H)) :
  Calls Tryz.prog 50 #[.pointer (some ⟨q, 0, none⟩), .agg (hopC f t pb).toArray] w fun e w' => ∃ u, e = .returned u ∧ ∃ v', (∀ {W2} w2, SLw W2 w2 v (iv x.asked) → SLw W2 w2 v' (iv r)) ∧ HpM M w0 w' (blk q (gC { x with asked := r, til := x.now + 30000 } v' out) 87 :: H) := by
 obtain ⟨⟨ah, ap⟩, ⟨bh, bp⟩, now0, nxt, til, ser, gone, noise, word, fresh, asked⟩ := x
 obtain ⟨fh, fp⟩ := f
 obtain ⟨th, tp⟩ := t
 obtain ⟨k, id, pr, ct, ti, no, ⟨mh, mp⟩⟩ := pb
 obtain ⟨hn1, hn2⟩ := hn
 dsimp only at hn1 hn2
 dsimp only [gC, hopC] at hp hv ha hml ⊢
 refine v_fn (args := [.pointer (some ⟨q, 0, none⟩), .agg #[.string fh, .int .i64 fp, .string th, .int .i64 tp, .int .i64 k, .int .i64 id, .int .i64 pr, .bool ct, .int .i64 ti, .bool no, .string mh, .int .i64 mp]]) TTok FFok Tryz.func50 rfl (Nat.le_of_ble_eq_true rfl) ?_
 conv => whnf
 refine VSeq.mk fun Kq hKq => ?_
 conv => whnf
 refine hp.kboxA fun q2 w hp hx => ?_
 have hv := hv.ext hx
 conv => whnf
 refine hKq _ _ _ (.refl _) ?_
 clear hKq Kq
 conv => whnf
 refine VSeq.mk fun Kq hKq => ?_
 conv => whnf
 (refine ⟨_, _, Blk.ld (hp.get (i := 1) rfl) TTok rfl rfl, ?_⟩; conv => whnf)
 refine Calls.mono (after_s (f := ⟨fh, fp⟩) (t := ⟨th, tp⟩) (pb := ⟨k, id, pr, ct, ti, no, ⟨mh, mp⟩⟩) hml hv (hp.get (i := 0) rfl) ha) ?_
 rintro _ w ⟨u, rfl, hx, hs⟩
 refine ⟨_, rfl, ?_⟩
 have hp := hp.call hx
 obtain ⟨pu, cu, rfl⟩ := (hs w (hv.ext hx).w0).shape
 conv => whnf
 refine hKq _ _ _ (.refl _) ?_
 clear hKq Kq
 conv => whnf
 refine VSeq.mk fun Kq hKq => ?_
 conv => whnf
 refine hKq _ _ _ (.refl _) ?_
 clear hKq Kq
 conv => whnf
 (refine And.intro (fun _ => ?_) (fun h => absurd h (by decide)); conv => whnf)
 (refine ⟨_, _, Blk.ld (hp.get (i := 1) rfl) TTok rfl rfl, ?_⟩; conv => whnf)
 (refine Or.inl (And.intro (by first | omega | decide) ?_); conv => whnf)
 (refine hp.kst1 TTok (by rfl) 1 (by rfl) (by rfl) (by rfl) (Nat.le_of_ble_eq_true rfl) fun w hp => ?_; try simp only [List.set_cons_zero, List.set_cons_succ, EV.val] at hp; conv => whnf)
 (refine hp.kst1 TTok (by rfl) 1 (by rfl) (by rfl) (by rfl) (Nat.le_of_ble_eq_true rfl) fun w hp => ?_; try simp only [List.set_cons_zero, List.set_cons_succ, EV.val] at hp; conv => whnf)
 exact ⟨_, hs, hp.tail⟩
theorem answered_n {M : List Nat} {w0 w : World} {H : List It} {q : Nat} {v out : Value} (x : Wt) (f t : Ad) (pb : Prb) (hml : x.asked.length ≤ maxLen) (hv : SLv w v (iv x.asked)) (ha : afterL pb.id x.asked = none) (hp : HpM M w0 w (blk q (gC x v out) 87 :: H)) :
  Calls Tryz.prog 50 #[.pointer (some ⟨q, 0, none⟩), .agg (hopC f t pb).toArray] w fun e w' => ∃ u, e = .returned u ∧ HpM M w0 w' (blk q (gC x v out) 87 :: H) := by
 obtain ⟨⟨ah, ap⟩, ⟨bh, bp⟩, now0, nxt, til, ser, gone, noise, word, fresh, asked⟩ := x
 obtain ⟨fh, fp⟩ := f
 obtain ⟨th, tp⟩ := t
 obtain ⟨k, id, pr, ct, ti, no, ⟨mh, mp⟩⟩ := pb
 dsimp only [gC, hopC] at hp hv ha hml ⊢
 refine v_fn (args := [.pointer (some ⟨q, 0, none⟩), .agg #[.string fh, .int .i64 fp, .string th, .int .i64 tp, .int .i64 k, .int .i64 id, .int .i64 pr, .bool ct, .int .i64 ti, .bool no, .string mh, .int .i64 mp]]) TTok FFok Tryz.func50 rfl (Nat.le_of_ble_eq_true rfl) ?_
 conv => whnf
 refine VSeq.mk fun Kq hKq => ?_
 conv => whnf
 refine hp.kboxA fun q2 w hp hx => ?_
 have hv := hv.ext hx
 conv => whnf
 refine hKq _ _ _ (.refl _) ?_
 clear hKq Kq
 conv => whnf
 refine VSeq.mk fun Kq hKq => ?_
 conv => whnf
 (refine ⟨_, _, Blk.ld (hp.get (i := 1) rfl) TTok rfl rfl, ?_⟩; conv => whnf)
 refine Calls.mono (after_n (f := ⟨fh, fp⟩) (t := ⟨th, tp⟩) (pb := ⟨k, id, pr, ct, ti, no, ⟨mh, mp⟩⟩) hml hv (hp.get (i := 0) rfl) ha) ?_
 rintro _ w ⟨rfl, hx⟩
 refine ⟨_, rfl, ?_⟩
 have hp := hp.call hx
 conv => whnf
 refine hKq _ _ _ (.refl _) ?_
 clear hKq Kq
 conv => whnf
 refine VSeq.mk fun Kq hKq => ?_
 conv => whnf
 refine hKq _ _ _ (.refl _) ?_
 clear hKq Kq
 conv => whnf
 (refine And.intro (fun h => absurd h (by decide)) (fun _ => ?_); conv => whnf)
 exact hp.tail
/-- the guard answers a question -/
theorem asked_c {M : List Nat} {w0 w : World} {H : List It} {q : Nat} {v : Value} (x : Wt) (f t : Ad) (pb : Prb) (hp : HpM M w0 w (blk q (gC x v (.slice none 0 0)) 87 :: H)) :
  Calls Tryz.prog 49 #[.pointer (some ⟨q, 0, none⟩), .agg (hopC f t pb).toArray] w fun e w' => ∃ u, e = .returned u ∧ ∃ o, HpM M w0 w' (blk q (gC x v o) 87 :: row 63 12 o 1 (hopC x.a x.b (p2 pb.id f)) :: H) := by
 obtain ⟨fh, fp⟩ := f
 obtain ⟨th, tp⟩ := t
 obtain ⟨k, id, pr, ct, ti, no, ⟨mh, mp⟩⟩ := pb
 dsimp only [hopC] at hp ⊢
 refine v_fn (args := [.pointer (some ⟨q, 0, none⟩), .agg #[.string fh, .int .i64 fp, .string th, .int .i64 tp, .int .i64 k, .int .i64 id, .int .i64 pr, .bool ct, .int .i64 ti, .bool no, .string mh, .int .i64 mp]]) TTok FFok Tryz.func49 rfl (Nat.le_of_ble_eq_true rfl) ?_
 conv => whnf
 refine VSeq.mk fun Kq hKq => ?_
 conv => whnf
 refine hp.kboxA fun q2 w hp hx => ?_
 conv => whnf
 refine hKq _ _ _ (.refl _) ?_
 clear hKq Kq
 conv => whnf
 (refine ⟨_, _, Blk.ld (hp.get (i := 0) rfl) TTok rfl rfl, ?_⟩; conv => whnf)
 (refine ⟨_, _, Blk.ldV (vs := [_, _]) (hp.get (i := 0) rfl) TTok rfl rfl rfl, ?_⟩; conv => whnf)
 (refine ⟨_, _, bld61_0_1_6 _ _ _ _ _, ?_⟩; conv => whnf)
 refine Calls.mono (send_c x (p2 id ⟨fh, fp⟩) (hp.pickH (L := [_, _]) [1, 0] (by decide))) ?_
 rintro _ w ⟨u, rfl, o, hp⟩
 refine ⟨_, rfl, ?_⟩
 conv => whnf
 exact ⟨o, hp.pickH (L := [_, _, _]) [0, 1] (by decide)⟩
end Go.Proofs.YtgkhcgiggjijlaaGreat
