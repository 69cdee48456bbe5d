/- Chapter 02: the constants. -/
/- Chapter 02: the program's constants. -/
/- Own slices, elements of one cell, whatever marks their rows bear. Own work. No program is named here. -/
/- Chapter 02: the program's constants, walked. -/
/- Chapter 02: the blocks, one after another. -/
import Derived.Test.YtmlmfmdmomegpaaGreatDoorKN06
import Derived.Test.YtmlmfmdmomegpaaGreatDoorKN04
namespace Go.Proofs.YtmlmfmdmomegpaaGreatDoor
set_option linter.unusedSimpArgs false
set_option linter.unusedVariables false
set_option maxRecDepth 100000
open Go.RowKit V
abbrev M64 : Nat := 18446744073709551616
def cubE (p x : Nat) : Bool := decide ((x * x / M64 * x + x * x % M64 * x / M64) < p * 4294967296) || (decide ((x * x / M64 * x + x * x % M64 * x / M64) = p * 4294967296) && decide (x * x % M64 * x % M64 = 0))
def sqrE (p x : Nat) : Bool := decide (x * x / M64 < p) || (decide (x * x / M64 = p) && decide (x * x % M64 = 0))
/-- the greatest number for which it is true, bit by bit -/
def frJ (E : Nat → Bool) : Nat → Nat
  | 0 => 0
  | j + 1 => if E (frJ E j ||| 68719476736 / 2 ^ j) = true then frJ E j ||| 68719476736 / 2 ^ j else frJ E j
theorem frJ_lt (E : Nat → Bool) : ∀ j, j ≤ 37 → frJ E j < 137438953472
  | 0, _ => by rw [frJ]; decide
  | j + 1, h => by
    have ih := frJ_lt E j (by omega)
    rw [frJ]
    split
    · exact Nat.or_lt_two_pow (n := 37) ih (Nat.lt_of_le_of_lt (Nat.div_le_self _ _) (by decide))
    · exact ih
def frN (E : Nat → Bool) : Nat := frJ E 37 % 4294967296
theorem sq_lt {x : Nat} (hx : x < 137438953472) : x * x < 18889465931478580854784 := Nat.mul_lt_mul'' hx hx
set_option maxHeartbeats 4000000 in
theorem cube_c {w : World} (x p qp : Nat) (hx : x < 137438953472) (hp31 : p < 2147483648) (hb : Blk w qp [.int .u64 p] 203) :
    Calls Tryz.prog 153 #[.int .u64 x, .pointer (some ⟨qp, 0, none⟩)] w fun e w' => e = .returned (.bool (cubE p x)) ∧ Ext w w' := by
  have hsq := sq_lt hx
  have m1 := Mul64_p x x (by omega) (by omega)
  have hlo : x * x % M64 < M64 := Nat.mod_lt _ (by decide)
  have hhi : x * x / M64 < 1024 := Nat.div_lt_of_lt_mul (by omega)
  have m2 := Mul64_p (x * x % M64) x (by omega) (by omega)
  unfold cubE
  obtain ⟨hi, hhd⟩ : ∃ hi, x * x / M64 = hi := ⟨_, rfl⟩
  obtain ⟨lo, hld⟩ : ∃ lo, x * x % M64 = lo := ⟨_, rfl⟩
  rw [hhd] at m1 hhi ⊢
  rw [hld] at m1 m2 hlo ⊢
  have htop : lo * x / M64 < 137438953472 := Nat.div_lt_of_lt_mul (Nat.mul_lt_mul'' hlo hx)
  obtain ⟨top, htd⟩ : ∃ top, lo * x / M64 = top := ⟨_, rfl⟩
  obtain ⟨a, had⟩ : ∃ a, lo * x % M64 = a := ⟨_, rfl⟩
  rw [htd] at m2 htop ⊢
  rw [had] at m2 ⊢
  have hhx : hi * x < 140737488355328 := Nat.mul_lt_mul'' hhi hx
  have hhxI : (hi : Int) * (x : Int) = ((hi * x : Nat) : Int) := (Int.natCast_mul hi x).symm
  clear hhd hld htd had hsq hlo
  refine v_reads TTok FFok Tryz.func153 rfl rfl ?_
  conv => whnf
  refine VSeq.mk fun Kq hKq => ?_
  conv => whnf
  refine hKq _ _ _ (.refl _) ?_
  clear hKq Kq
  conv => whnf
  refine VSeq.mk fun Kq hKq => ?_
  conv => whnf
  have hp := Hp.nil w
  refine PureF.use (m1) fun w hx => ?_
  try (have hp := hp.call hx)
  conv => whnf
  refine hKq _ _ _ (.refl _) ?_
  clear hKq Kq
  conv => whnf
  refine VSeq.mk fun Kq hKq => ?_
  conv => whnf
  refine PureF.use (m2) fun w hx => ?_
  try (have hp := hp.call hx)
  conv => whnf
  refine hKq _ _ _ (.refl _) ?_
  clear hKq Kq
  conv => whnf
  refine VSeq.mk fun Kq hKq => ?_
  conv => whnf
  refine hKq _ _ _ (.refl _) ?_
  clear hKq Kq
  conv => whnf
  refine VSeq.mk fun Kq hKq => ?_
  conv => whnf
  refine VSeq.mk fun Kq hKq => ?_
  conv => whnf
  rw [show ((hi : Int) * (x : Int) % 18446744073709551616 + (top : Int)) % 18446744073709551616 = ((hi * x + top : Nat) : Int) by omega]
  refine ⟨_, _, Blk.ld (hb.ext hp.ext) TTok rfl (rfl), ?_⟩
  conv => whnf
  refine ⟨32, ⟨by first | rfl | omega, by omega⟩, ?_⟩
  conv => whnf
  refine hKq _ _ _ (.refl _) ?_
  clear hKq Kq
  conv => whnf
  have hpe : ((p : Nat) : Int) * 2 ^ 32 % 18446744073709551616 = ((p * 4294967296 : Nat) : Int) := by omega
  rw [hpe]
  obtain ⟨Y, hY⟩ : ∃ Y, hi * x + top = Y := ⟨_, rfl⟩
  obtain ⟨Q, hQ⟩ : ∃ Q, p * 4294967296 = Q := ⟨_, rfl⟩
  rw [hQ] at hpe
  rw [hY, hQ]
  refine ⟨fun h1 => ?_, fun h1 => ?_⟩
  · have h1 := of_decide_eq_true h1
    conv => whnf
    refine hKq _ _ _ (.refl _) ?_
    clear hKq Kq
    conv => whnf
    refine ⟨?_, hp.ext⟩
    rw [hY, hQ, decide_eq_true (show Y < Q by omega), Bool.true_or]
    rfl
  · have h1 := of_decide_eq_false h1
    conv => whnf
    refine ⟨_, _, Blk.ld (hb.ext hp.ext) TTok rfl (rfl), ?_⟩
    conv => whnf
    refine ⟨32, ⟨by first | rfl | omega, by omega⟩, ?_⟩
    conv => whnf
    rw [hpe]
    refine ⟨fun h2 => ?_, fun h2 => ?_⟩
    · have h2 := of_decide_eq_true h2
      conv => whnf
      refine hKq _ _ _ (.refl _) ?_
      clear hKq Kq
      conv => whnf
      refine ⟨?_, hp.ext⟩
      rw [hY, hQ, decide_eq_false (show ¬ Y < Q by omega), Bool.false_or, decide_eq_true (show Y = Q by omega), Bool.true_and]
      show Value.bool (decide ((a : Int) = 0)) = _
      exact congrArg Value.bool (decide_eq_decide.2 (by omega))
    · have h2 := of_decide_eq_false h2
      conv => whnf
      refine hKq _ _ _ (.refl _) ?_
      clear hKq Kq
      conv => whnf
      refine ⟨?_, hp.ext⟩
      rw [hY, hQ, decide_eq_false (show ¬ Y < Q by omega), Bool.false_or, decide_eq_false (show ¬ Y = Q by omega), Bool.false_and]
      first | rfl | (show Value.bool (decide ((Y : Int) = (Q : Int))) = _; exact congrArg Value.bool (decide_eq_false (by omega)))
set_option maxHeartbeats 4000000 in
theorem sqr_c {w : World} (x p qp : Nat) (hx : x < 137438953472) (hp31 : p < 2147483648) (hb : Blk w qp [.int .u64 p] 203) :
    Calls Tryz.prog 154 #[.int .u64 x, .pointer (some ⟨qp, 0, none⟩)] w fun e w' => e = .returned (.bool (sqrE p x)) ∧ Ext w w' := by
  have m1 := Mul64_p x x (by omega) (by omega)
  unfold sqrE
  obtain ⟨hi, hhd⟩ : ∃ hi, x * x / M64 = hi := ⟨_, rfl⟩
  obtain ⟨lo, hld⟩ : ∃ lo, x * x % M64 = lo := ⟨_, rfl⟩
  rw [hhd, hld] at m1 ⊢
  clear hhd hld
  refine v_reads TTok FFok Tryz.func154 rfl rfl ?_
  conv => whnf
  refine VSeq.mk fun Kq hKq => ?_
  conv => whnf
  refine hKq _ _ _ (.refl _) ?_
  clear hKq Kq
  conv => whnf
  refine VSeq.mk fun Kq hKq => ?_
  conv => whnf
  have hp := Hp.nil w
  refine PureF.use (m1) fun w hx => ?_
  try (have hp := hp.call hx)
  conv => whnf
  refine hKq _ _ _ (.refl _) ?_
  clear hKq Kq
  conv => whnf
  refine VSeq.mk fun Kq hKq => ?_
  conv => whnf
  refine VSeq.mk fun Kq hKq => ?_
  conv => whnf
  refine ⟨_, _, Blk.ld (hb.ext hp.ext) TTok rfl (rfl), ?_⟩
  conv => whnf
  refine hKq _ _ _ (.refl _) ?_
  clear hKq Kq
  conv => whnf
  refine ⟨fun h1 => ?_, fun h1 => ?_⟩
  · have h1 := of_decide_eq_true h1
    conv => whnf
    refine hKq _ _ _ (.refl _) ?_
    clear hKq Kq
    conv => whnf
    refine ⟨?_, hp.ext⟩
    rw [decide_eq_true (show hi < p by omega), Bool.true_or]
    rfl
  · have h1 := of_decide_eq_false h1
    conv => whnf
    refine ⟨_, _, Blk.ld (hb.ext hp.ext) TTok rfl (rfl), ?_⟩
    conv => whnf
    refine ⟨fun h2 => ?_, fun h2 => ?_⟩
    · have h2 := of_decide_eq_true h2
      conv => whnf
      refine hKq _ _ _ (.refl _) ?_
      clear hKq Kq
      conv => whnf
      refine ⟨?_, hp.ext⟩
      rw [decide_eq_false (show ¬ hi < p by omega), Bool.false_or, decide_eq_true (show hi = p by omega), Bool.true_and]
      show Value.bool (decide ((lo : Int) = 0)) = _
      exact congrArg Value.bool (decide_eq_decide.2 (by omega))
    · have h2 := of_decide_eq_false h2
      conv => whnf
      refine hKq _ _ _ (.refl _) ?_
      clear hKq Kq
      conv => whnf
      refine ⟨?_, hp.ext⟩
      rw [decide_eq_false (show ¬ hi < p by omega), Bool.false_or, decide_eq_false (show ¬ hi = p by omega), Bool.false_and]
      first | rfl | (show Value.bool (decide ((hi : Int) = (p : Int))) = _; exact congrArg Value.bool (decide_eq_false (by omega)))
theorem bit_pos : ∀ j, j < 37 → 0 < 68719476736 / 2 ^ j := by decide +kernel
theorem bit_end : 68719476736 / 2 ^ 37 = 0 := by decide
set_option maxHeartbeats 4000000 in
theorem fraction_cube {w0 : World} (p qp : Nat) (hp31 : p < 2147483648) (hb : Blk w0 qp [.int .u64 p] 203) :
    Calls Tryz.prog 152 #[.func (.func 153) #[] #[.pointer (some ⟨qp, 0, none⟩)]] w0 fun e w' => e = .returned (.int .u32 (frN (cubE p) : Nat)) ∧ Ext w0 w' := by
  refine v_reads TTok FFok Tryz.func152 rfl rfl ?_
  conv => whnf
  refine VSeq.mk fun Kq hKq => ?_
  conv => whnf
  refine hKq _ _ _ (.refl _) ?_
  clear hKq Kq
  conv => whnf
  refine VSeq.mk fun Kq hKq => ?_
  conv => whnf
  refine hKq _ _ _ (.refl _) ?_
  clear hKq Kq
  conv => whnf
  refine VSeq.mk fun Kq hKq => ?_
  conv => whnf
  refine VSeq.mk fun Kq hKq => ?_
  conv => whnf
  refine hKq _ _ _ (.refl _) ?_
  clear hKq Kq
  conv => whnf
  have hp := Hp.nil w0
  refine ⟨fun m e w' => ∃ (j : Nat), m + j = 37 ∧ e = [(0, .v (.func (.func 153) #[] #[.pointer (some ⟨qp, 0, none⟩)])), (3, .v (.int .u64 (frJ (cubE p) j : Nat))), (4, .v (.int .u64 (68719476736 / 2 ^ j : Nat)))] ∧ Hp w0 w' [],
    ⟨37, _, ⟨0, by omega, rfl, hp⟩, sub_cons rfl (sub_cons rfl (sub_cons rfl sub_nil))⟩, ?_⟩
  clear hp
  repeat clear hp
  rintro m _ w ⟨j, hm, rfl, hp⟩
  have hx := frJ_lt (cubE p) j (by omega)
  have hbe : 68719476736 / 2 ^ j < 137438953472 := Nat.lt_of_le_of_lt (Nat.div_le_self _ _) (by decide)
  conv => whnf
  refine VSeq.mk fun Kq hKq => ?_
  conv => whnf
  refine VSeq.mk fun Kq hKq => ?_
  conv => whnf
  refine hKq _ _ _ (.refl _) ?_
  clear hKq Kq
  conv => whnf
  refine ⟨fun hlt => ?_, fun hlt => ?_⟩
  · have hlt := of_decide_eq_true hlt
    conv => whnf
    refine hKq _ _ _ (.refl _) ?_
    clear hKq Kq
    conv => whnf
    refine VSeq.mk fun Kq hKq => ?_
    conv => whnf
    refine VSeq.mk fun Kq hKq => ?_
    conv => whnf
    have hj : j < 37 := by
      rcases Nat.lt_or_ge j 37 with h | h
      · exact h
      · obtain rfl : j = 37 := by omega
        rw [bit_end] at hlt; omega
    have hs : frJ (cubE p) (j + 1) = if cubE p (frJ (cubE p) j ||| 68719476736 / 2 ^ j) = true then frJ (cubE p) j ||| 68719476736 / 2 ^ j else frJ (cubE p) j := rfl
    have hdv : 68719476736 / 2 ^ (j + 1) = 68719476736 / 2 ^ j / 2 := by rw [Nat.div_div_eq_div_mul]; rfl
    obtain ⟨X, hX⟩ : ∃ X, frJ (cubE p) j = X := ⟨_, rfl⟩
    obtain ⟨B, hB⟩ : ∃ B, 68719476736 / 2 ^ j = B := ⟨_, rfl⟩
    rw [hX, hB] at hs
    rw [hX] at hx ⊢
    rw [hB] at hbe hdv ⊢
    have hor : X ||| B < 137438953472 := Nat.or_lt_two_pow (n := 37) hx hbe
    have hc := cube_c (X ||| B) p qp hor hp31 (hb.ext hp.ext)
    refine ⟨X, B, X ||| B, ⟨by first | rfl | omega, by first | rfl | omega, by omega, by omega⟩, rfl, ?_⟩
    conv => whnf
    cases hE : cubE p (X ||| B) with
    | true =>
      rw [hE] at hc hs
      rw [if_pos rfl] at hs
      refine V.CallsUse (hc) fun w hx => ?_
      try (have hp := hp.call hx)
      conv => whnf
      refine hKq _ _ _ (.refl _) ?_
      clear hKq Kq
      conv => whnf
      refine And.intro (fun _ => ?_) (fun h => by cases h)
      conv => whnf
      refine ⟨X, B, X ||| B, ⟨by first | rfl | omega, by first | rfl | omega, by omega, by omega⟩, rfl, ?_⟩
      conv => whnf
      refine hKq _ _ _ (.refl _) ?_
      clear hKq Kq
      conv => whnf
      refine ⟨1, ⟨by first | rfl | omega, by omega⟩, ?_⟩
      conv => whnf
      rw [show ((B : Nat) : Int) / 2 ^ 1 = ((B / 2 : Nat) : Int) by omega, ← hdv, ← hs]
      exact ⟨m - 1, _, by omega, ⟨j + 1, by omega, rfl, hp⟩, sub_cons rfl (sub_cons rfl (sub_cons rfl sub_nil))⟩
    | false =>
      rw [hE] at hc hs
      rw [if_neg (by decide)] at hs
      refine V.CallsUse (hc) fun w hx => ?_
      try (have hp := hp.call hx)
      conv => whnf
      refine hKq _ _ _ (.refl _) ?_
      clear hKq Kq
      conv => whnf
      refine And.intro (fun h => by cases h) (fun _ => ?_)
      conv => whnf
      refine hKq _ _ _ (.refl _) ?_
      clear hKq Kq
      conv => whnf
      refine ⟨1, ⟨by first | rfl | omega, by omega⟩, ?_⟩
      conv => whnf
      rw [show ((B : Nat) : Int) / 2 ^ 1 = ((B / 2 : Nat) : Int) by omega, ← hdv, ← hs]
      exact ⟨m - 1, _, by omega, ⟨j + 1, by omega, rfl, hp⟩, sub_cons rfl (sub_cons rfl (sub_cons rfl sub_nil))⟩
  · have hlt := of_decide_eq_false hlt
    conv => whnf
    clear hKq Kq
    refine hKq _ _ _ (.refl _) ?_
    clear hKq Kq
    conv => whnf
    refine VSeq.mk fun Kq hKq => ?_
    conv => whnf
    have hj : j = 37 := by
      rcases Nat.lt_or_ge j 37 with h | h
      · have := bit_pos j h; omega
      · omega
    subst hj
    unfold frN
    obtain ⟨X, hX⟩ : ∃ X, frJ (cubE p) 37 = X := ⟨_, rfl⟩
    rw [hX] at hx ⊢
    have hand : X &&& 4294967295 = X % 4294967296 := Nat.and_two_pow_sub_one_eq_mod X 32
    refine ⟨X, 4294967295, X % 4294967296, ⟨by first | rfl | omega, by first | rfl | omega, by omega, by omega⟩, by (dsimp only; exact hand), ?_⟩
    conv => whnf
    refine hKq _ _ _ (.refl _) ?_
    clear hKq Kq
    conv => whnf
    refine ⟨?_, hp.ext⟩
    show Value.int .u32 (((X % 4294967296 : Nat) : Int) % 4294967296) = _
    unfold frN
    rw [hX, show (((X % 4294967296 : Nat) : Int) % 4294967296) = ((X % 4294967296 : Nat) : Int) by omega]
set_option maxHeartbeats 4000000 in
theorem fraction_sqr {w0 : World} (p qp : Nat) (hp31 : p < 2147483648) (hb : Blk w0 qp [.int .u64 p] 203) :
    Calls Tryz.prog 152 #[.func (.func 154) #[] #[.pointer (some ⟨qp, 0, none⟩)]] w0 fun e w' => e = .returned (.int .u32 (frN (sqrE p) : Nat)) ∧ Ext w0 w' := by
  refine v_reads TTok FFok Tryz.func152 rfl rfl ?_
  conv => whnf
  refine VSeq.mk fun Kq hKq => ?_
  conv => whnf
  refine hKq _ _ _ (.refl _) ?_
  clear hKq Kq
  conv => whnf
  refine VSeq.mk fun Kq hKq => ?_
  conv => whnf
  refine hKq _ _ _ (.refl _) ?_
  clear hKq Kq
  conv => whnf
  refine VSeq.mk fun Kq hKq => ?_
  conv => whnf
  refine VSeq.mk fun Kq hKq => ?_
  conv => whnf
  refine hKq _ _ _ (.refl _) ?_
  clear hKq Kq
  conv => whnf
  have hp := Hp.nil w0
  refine ⟨fun m e w' => ∃ (j : Nat), m + j = 37 ∧ e = [(0, .v (.func (.func 154) #[] #[.pointer (some ⟨qp, 0, none⟩)])), (3, .v (.int .u64 (frJ (sqrE p) j : Nat))), (4, .v (.int .u64 (68719476736 / 2 ^ j : Nat)))] ∧ Hp w0 w' [],
    ⟨37, _, ⟨0, by omega, rfl, hp⟩, sub_cons rfl (sub_cons rfl (sub_cons rfl sub_nil))⟩, ?_⟩
  clear hp
  repeat clear hp
  rintro m _ w ⟨j, hm, rfl, hp⟩
  have hx := frJ_lt (sqrE p) j (by omega)
  have hbe : 68719476736 / 2 ^ j < 137438953472 := Nat.lt_of_le_of_lt (Nat.div_le_self _ _) (by decide)
  conv => whnf
  refine VSeq.mk fun Kq hKq => ?_
  conv => whnf
  refine VSeq.mk fun Kq hKq => ?_
  conv => whnf
  refine hKq _ _ _ (.refl _) ?_
  clear hKq Kq
  conv => whnf
  refine ⟨fun hlt => ?_, fun hlt => ?_⟩
  · have hlt := of_decide_eq_true hlt
    conv => whnf
    refine hKq _ _ _ (.refl _) ?_
    clear hKq Kq
    conv => whnf
    refine VSeq.mk fun Kq hKq => ?_
    conv => whnf
    refine VSeq.mk fun Kq hKq => ?_
    conv => whnf
    have hj : j < 37 := by
      rcases Nat.lt_or_ge j 37 with h | h
      · exact h
      · obtain rfl : j = 37 := by omega
        rw [bit_end] at hlt; omega
    have hs : frJ (sqrE p) (j + 1) = if sqrE p (frJ (sqrE p) j ||| 68719476736 / 2 ^ j) = true then frJ (sqrE p) j ||| 68719476736 / 2 ^ j else frJ (sqrE p) j := rfl
    have hdv : 68719476736 / 2 ^ (j + 1) = 68719476736 / 2 ^ j / 2 := by rw [Nat.div_div_eq_div_mul]; rfl
    obtain ⟨X, hX⟩ : ∃ X, frJ (sqrE p) j = X := ⟨_, rfl⟩
    obtain ⟨B, hB⟩ : ∃ B, 68719476736 / 2 ^ j = B := ⟨_, rfl⟩
    rw [hX, hB] at hs
    rw [hX] at hx ⊢
    rw [hB] at hbe hdv ⊢
    have hor : X ||| B < 137438953472 := Nat.or_lt_two_pow (n := 37) hx hbe
    have hc := sqr_c (X ||| B) p qp hor hp31 (hb.ext hp.ext)
    refine ⟨X, B, X ||| B, ⟨by first | rfl | omega, by first | rfl | omega, by omega, by omega⟩, rfl, ?_⟩
    conv => whnf
    cases hE : sqrE p (X ||| B) with
    | true =>
      rw [hE] at hc hs
      rw [if_pos rfl] at hs
      refine V.CallsUse (hc) fun w hx => ?_
      try (have hp := hp.call hx)
      conv => whnf
      refine hKq _ _ _ (.refl _) ?_
      clear hKq Kq
      conv => whnf
      refine And.intro (fun _ => ?_) (fun h => by cases h)
      conv => whnf
      refine ⟨X, B, X ||| B, ⟨by first | rfl | omega, by first | rfl | omega, by omega, by omega⟩, rfl, ?_⟩
      conv => whnf
      refine hKq _ _ _ (.refl _) ?_
      clear hKq Kq
      conv => whnf
      refine ⟨1, ⟨by first | rfl | omega, by omega⟩, ?_⟩
      conv => whnf
      rw [show ((B : Nat) : Int) / 2 ^ 1 = ((B / 2 : Nat) : Int) by omega, ← hdv, ← hs]
      exact ⟨m - 1, _, by omega, ⟨j + 1, by omega, rfl, hp⟩, sub_cons rfl (sub_cons rfl (sub_cons rfl sub_nil))⟩
    | false =>
      rw [hE] at hc hs
      rw [if_neg (by decide)] at hs
      refine V.CallsUse (hc) fun w hx => ?_
      try (have hp := hp.call hx)
      conv => whnf
      refine hKq _ _ _ (.refl _) ?_
      clear hKq Kq
      conv => whnf
      refine And.intro (fun h => by cases h) (fun _ => ?_)
      conv => whnf
      refine hKq _ _ _ (.refl _) ?_
      clear hKq Kq
      conv => whnf
      refine ⟨1, ⟨by first | rfl | omega, by omega⟩, ?_⟩
      conv => whnf
      rw [show ((B : Nat) : Int) / 2 ^ 1 = ((B / 2 : Nat) : Int) by omega, ← hdv, ← hs]
      exact ⟨m - 1, _, by omega, ⟨j + 1, by omega, rfl, hp⟩, sub_cons rfl (sub_cons rfl (sub_cons rfl sub_nil))⟩
  · have hlt := of_decide_eq_false hlt
    conv => whnf
    clear hKq Kq
    refine hKq _ _ _ (.refl _) ?_
    clear hKq Kq
    conv => whnf
    refine VSeq.mk fun Kq hKq => ?_
    conv => whnf
    have hj : j = 37 := by
      rcases Nat.lt_or_ge j 37 with h | h
      · have := bit_pos j h; omega
      · omega
    subst hj
    unfold frN
    obtain ⟨X, hX⟩ : ∃ X, frJ (sqrE p) 37 = X := ⟨_, rfl⟩
    rw [hX] at hx ⊢
    have hand : X &&& 4294967295 = X % 4294967296 := Nat.and_two_pow_sub_one_eq_mod X 32
    refine ⟨X, 4294967295, X % 4294967296, ⟨by first | rfl | omega, by first | rfl | omega, by omega, by omega⟩, by (dsimp only; exact hand), ?_⟩
    conv => whnf
    refine hKq _ _ _ (.refl _) ?_
    clear hKq Kq
    conv => whnf
    refine ⟨?_, hp.ext⟩
    show Value.int .u32 (((X % 4294967296 : Nat) : Int) % 4294967296) = _
    unfold frN
    rw [hX, show (((X % 4294967296 : Nat) : Int) % 4294967296) = ((X % 4294967296 : Nat) : Int) by omega]
def isP (p : Nat) : Bool := (List.range 17).all fun i => !(decide ((i + 2) * (i + 2) ≤ p)) || decide (p % (i + 2) ≠ 0)
def tri (p : Nat) : Nat → Bool
  | 0 => true
  | j + 1 => tri p j && decide (p % (j + 2) ≠ 0)
theorem tri_iff (p : Nat) : ∀ j, tri p j = true ↔ ∀ i, i < j → p % (i + 2) ≠ 0
  | 0 => by simp [tri]
  | j + 1 => by
    rw [tri, Bool.and_eq_true, tri_iff p j, decide_eq_true_eq]
    constructor
    · rintro ⟨h1, h2⟩ i hi
      rcases Nat.lt_or_ge i j with h | h
      · exact h1 i h
      · obtain rfl : i = j := by omega
        exact h2
    · exact fun h => ⟨fun i hi => h i (by omega), h j (by omega)⟩
theorem tri_isP (p j : Nat) (hp : p ≤ 312) (h1 : ∀ i, i < j → (i + 2) * (i + 2) ≤ p) (h2 : p < (j + 2) * (j + 2)) : tri p j = isP p := by
  rw [Bool.eq_iff_iff, tri_iff]
  unfold isP
  rw [List.all_eq_true]
  simp only [List.mem_range, Bool.or_eq_true, Bool.not_eq_true', decide_eq_false_iff_not, decide_eq_true_eq]
  constructor
  · intro h i _
    rcases Nat.lt_or_ge i j with hi | hi
    · exact .inr (h i hi)
    · left
      have := Nat.mul_le_mul (show j + 2 ≤ i + 2 by omega) (show j + 2 ≤ i + 2 by omega)
      omega
  · intro h i hi
    have h3 := h1 i hi
    have hi17 : i < 17 := by
      rcases Nat.lt_or_ge i 17 with h | h
      · exact h
      · have := Nat.mul_le_mul (show 19 ≤ i + 2 by omega) (show 19 ≤ i + 2 by omega)
        omega
    rcases h i hi17 with h | h
    · omega
    · exact h
def tabJ : Nat → Nat × List Nat × List Nat
  | 0 => (0, List.replicate 64 0, List.replicate 8 0)
  | i + 1 => if isP (i + 2) = true then ((tabJ i).1 + 1, (tabJ i).2.1.set (tabJ i).1 (frN (cubE (i + 2))), if (tabJ i).1 < 8 then (tabJ i).2.2.set (tabJ i).1 (frN (sqrE (i + 2))) else (tabJ i).2.2) else tabJ i
theorem tab_len : ∀ i, (tabJ i).2.1.length = 64 ∧ (tabJ i).2.2.length = 8
  | 0 => by decide
  | i + 1 => by
    obtain ⟨h1, h2⟩ := tab_len i
    rw [tabJ]
    split
    · refine ⟨by rw [List.length_set]; exact h1, ?_⟩
      show (if (tabJ i).1 < 8 then _ else _ : List Nat).length = 8
      split
      · rw [List.length_set]; exact h2
      · exact h2
    · exact ⟨h1, h2⟩
def KL : List Nat := [1116352408, 1899447441, 3049323471, 3921009573, 961987163, 1508970993, 2453635748, 2870763221, 3624381080, 310598401, 607225278, 1426881987, 1925078388, 2162078206, 2614888103, 3248222580, 3835390401, 4022224774, 264347078, 604807628, 770255983, 1249150122, 1555081692, 1996064986, 2554220882, 2821834349, 2952996808, 3210313671, 3336571891, 3584528711, 113926993, 338241895, 666307205, 773529912, 1294757372, 1396182291, 1695183700, 1986661051, 2177026350, 2456956037, 2730485921, 2820302411, 3259730800, 3345764771, 3516065817, 3600352804, 4094571909, 275423344, 430227734, 506948616, 659060556, 883997877, 958139571, 1322822218, 1537002063, 1747873779, 1955562222, 2024104815, 2227730452, 2361852424, 2428436474, 2756734187, 3204031479, 3329325298]
def SL : List Nat := [1779033703, 3144134277, 1013904242, 2773480762, 1359893119, 2600822924, 528734635, 1541459225]
theorem tab_cnt : ∀ i, i < 310 → (tabJ i).1 < 64 := by decide +kernel
theorem tab_end : tabJ 310 = (64, KL, SL) := by decide +kernel
theorem SL_W8 : W8 SL := by
  refine ⟨rfl, ?_⟩
  decide
theorem KL_len : KL.length = 64 := rfl
theorem KL_lt : ∀ x ∈ KL, x < M32 := by decide +kernel
open Go.RowKit
namespace V
def OB (w : World) (e : Nat) (v : Value) (xs : List Value) : Prop :=
  (v = .slice none 0 0 ∧ xs = []) ∨ ∃ g zs, v = .slice (some ⟨g, 0, none⟩) xs.length (xs.length + zs.length) ∧ xs.length + zs.length ≤ maxLen ∧ Blk w g (xs ++ zs) e
def ob (e : Nat) (v : Value) (xs : List Value) : It := ⟨v.ownBlock, fun w => OB w e v xs⟩
theorem ob_ok (e : Nat) (v : Value) (xs : List Value) : (ob e v xs).Ok := fun w w' _ h hh => by
  rcases hh with hh | ⟨g, zs, rfl, hm, hb⟩
  · exact .inl hh
  · exact .inr ⟨g, zs, rfl, hm, Blk.same hb (h g rfl)⟩
section
variable {P : Program} {T : Tab} {M : List Nat} {w0 w : World} {H : List It} {K : Value → World → Prop}
theorem OB.shape {e : Nat} {v : Value} {xs : List Value} (h : OB w e v xs) : ∃ p c, v = .slice p xs.length c := by
  rcases h with ⟨rfl, rfl⟩ | ⟨g, zs, rfl, _, _⟩
  · exact ⟨_, _, rfl⟩
  · exact ⟨_, _, rfl⟩
theorem OB.at {e : Nat} {p : Option Addr} {n c : Nat} {xs : List Value} (h : OB w e (.slice p n c) xs) {j : Nat} {x : Value} (hj : xs[j]? = some x) : ∃ g, p = some ⟨g, 0, none⟩ ∧ w.cell? ⟨g, j, none⟩ = some x := by
  rcases h with ⟨_, rfl⟩ | ⟨g, zs, hv, _, hb⟩
  · simp at hj
  · simp only [Value.slice.injEq] at hv
    exact ⟨g, hv.1, by rw [hb.cell, List.getElem?_append_left (List.getElem?_eq_some_iff.1 hj).1]; exact hj⟩
/-- '[]byte(s)' -/
theorem HpM.kbytesO (h : HpM M w0 w H) (hT : tabOk P T = true) {src dst e n1 n2 n3 : Nat} (hs : tfind T src = some ⟨.str, n1⟩) (hd : tfind T dst = some ⟨.slice e, n2⟩) (he : tfind T e = some ⟨.int .u8, n3⟩) {s : ByteArray} (hsm : s.size ≤ maxLen)
    (hk : ∀ v w', HpM M w0 w' (ob e v (bytesV s.data.toList) :: H) → Ext w w' → K v w') :
    ∃ v w', (convert src dst (.string s)).run P w = .ok v w' ∧ K v w' := by
  have hr := run_bytes_of_string (P := P) w src dst e s (tab_str hT hs) (tab_slice hT hd) (tab_int hT he)
  have hx : Ext w (w.drew.alloc (.cells (bytesRow s (grownCap w s.size 0 e)) e ((bytesRow s (grownCap w s.size 0 e)).size, (bytesRow s (grownCap w s.size 0 e)).size + 1))) := ((Ext.refl w).drew).alloc _
  have hn : ∀ o : Obj, (w.drew.alloc o).heap[w.heap.size]? = some o := fun o => by
    show (w.heap.push o)[w.heap.size]? = some o
    simp
  have hge := grownCap_ge w s.size 0 e
  have hle := grownCap_le_maxLen w s.size 0 e hsm
  have hl : (bytesV s.data.toList).length = s.size := by simp [bytesV]
  have hcap : (bytesV s.data.toList).length + (List.replicate (grownCap w s.size 0 e - s.size) (Value.int .u8 0)).length = grownCap w s.size 0 e := by rw [hl, List.length_replicate]; omega
  refine ⟨_, _, hr, hk _ _ (h.push hx (ob_ok _ _ _) (.inr ⟨w.heap.size, List.replicate (grownCap w s.size 0 e - s.size) (.int .u8 0), by rw [hl]; exact congrArg (Value.slice _ _) (by rw [List.length_replicate]; omega), by rw [hcap]; exact hle, ⟨((bytesRow s (grownCap w s.size 0 e)).size, (bytesRow s (grownCap w s.size 0 e)).size + 1), .inr (by simp [bytesRow, bytesV]), ?_⟩⟩) ?_) hx⟩
  · rw [hn]
    refine congrArg (fun c => some (Obj.cells c e _)) ?_
    apply Array.ext'
    simp [bytesRow, bytesV]
  · intro b hb
    simp only [ob, Value.ownBlock, Option.some.injEq] at hb
    subst hb
    exact ⟨Nat.le_refl _, by rw [World.size_alloc]; exact Nat.lt_succ_self _⟩
/-- the bytes of such a slice, as a string -/
theorem OB.str {e : Nat} {v : Value} {l : List UInt8} (h : OB w e v (bytesV l)) (hT : tabOk P T = true) {src dst n1 n2 n3 : Nat} (hs : tfind T src = some ⟨.slice e, n1⟩) (he : tfind T e = some ⟨.int .u8, n2⟩) (hd : tfind T dst = some ⟨.str, n3⟩) :
    (convert src dst v).run P w = .ok (.string ⟨l.toArray⟩) w := by
  rcases h with ⟨rfl, h0⟩ | ⟨g, zs, rfl, _, hb⟩
  · have : l = [] := by cases l with
      | nil => rfl
      | cons _ _ => simp [bytesV] at h0
    subst this
    exact conv_nil (hT := hT) hs he hd
  · exact Blk.str' hb hT hs he hd rfl (by simp [bytesV])
/-- A call that takes a thing over and hands it back, turned. -/
def TakesF (P : Program) (f : Nat) (args : Array Value) (x : It) (R : Value → It) : Prop := ∀ w, x.holds w → (∀ b, x.own = some b → b < w.heap.size) → Calls P f args w fun e w' => ∃ v, e = .returned v ∧ HpM x.own.toList w w' [R v]
theorem ExtM.grownO {w w' : World} {o : Option Nat} (h : ExtM o.toList w w') : w.grownBy w' o :=
  ⟨h.os, h.tape, h.output, h.size, fun k hk hne => h.block k hk (fun e => hne (by simp at e; exact e.symm))⟩
theorem TakesF.use {f : Nat} {args : Array Value} {x : It} {R : Value → It} (h : TakesF P f args x R) (hp : HpM M w0 w H) (i : Nat) (hi : H[i]? = some x) (hk : ∀ v w', HpM M w0 w' (H.set i (R v)) → K v w') :
    Calls P f args w fun e w' => ∃ v, e = .returned v ∧ K v w' := by
  refine (h w (hp.get hi) (fun b hb => (hp.lo x (List.mem_of_getElem? hi) b hb).2)).mono ?_
  rintro e w' ⟨v, rfl, hq⟩
  refine ⟨v, rfl, hk v w' (hp.upd hi hq.extM.grownO (hq.ok _ (by simp)) (hq.holds _ (by simp)) (fun b hb => ?_))⟩
  have := hq.lo _ (by simp) b hb
  rcases this.1 with h1 | h1
  · exact .inl (by simpa using h1)
  · exact .inr ⟨h1, this.2⟩
theorem Blk.lv {w : World} {b : Nat} {cs : List Value} {e : Nat} (h : Blk w b cs e) (hT : tabOk P T = true) {t off : Nat} {v : Value} (ht : plainT T t = true) (hc : cs[off]? = some v) : (loadVar t ⟨b, off, none⟩).run P w = .ok v w :=
  run_loadVar1 hT ht ((h.cell off).trans hc)
/-- some of the things, in a new order -/
theorem HpM.pick (h : HpM M w0 w H) (ns : List Nat) (hn : ns.Nodup) : HpM M w0 w (ns.filterMap fun i => H[i]?) := by
  have hm : ∀ x ∈ ns.filterMap (fun i => H[i]?), x ∈ H := fun x hx => by
    obtain ⟨i, _, hi⟩ := List.mem_filterMap.1 hx
    exact List.mem_of_getElem? hi
  refine ⟨h.extM, fun x hx => h.ok x (hm x hx), fun x hx => h.holds x (hm x hx), fun x hx => h.lo x (hm x hx), ?_⟩
  rw [List.pairwise_filterMap]
  refine hn.imp fun {i j} hij x hx y hy b hb hyb => ?_
  obtain ⟨hil, rfl⟩ := List.getElem?_eq_some_iff.1 hx
  obtain ⟨hjl, rfl⟩ := List.getElem?_eq_some_iff.1 hy
  have hap := List.pairwise_iff_getElem.1 h.apart
  rcases Nat.lt_or_gt_of_ne hij with hlt | hlt
  · exact hap i j hil hjl hlt b hb hyb
  · exact hap j i hjl hil hlt b hyb hb
end
end V
def hV (h : List Nat) : Value := .agg (kw .u32 h).toArray
set_option maxHeartbeats 4000000 in
theorem constants_p : PureF Tryz.prog 127 #[] (.tuple #[hV SL, hV KL]) := by
  unfold hV
  first | refine v_pure TTok FFok Tryz.func127 rfl rfl fun w0 => ?_ | refine v_pure (args := []) TTok FFok Tryz.func127 rfl rfl fun w0 => ?_
  conv => whnf
  refine VSeq.mk fun Kq hKq => ?_
  conv => whnf
  have hp := Hp.nil w0
  refine hp.kalloc z157 fun q0 w hp hx => ?_
  conv => whnf
  refine hp.kalloc z158 fun q1 w hp hx => ?_
  conv => whnf
  refine hKq _ _ _ (.refl _) ?_
  clear hKq Kq
  conv => whnf
  refine VSeq.mk fun Kq hKq => ?_
  conv => whnf
  refine hKq _ _ _ (.refl _) ?_
  clear hKq Kq
  conv => whnf
  refine VSeq.mk fun Kq hKq => ?_
  conv => whnf
  refine VSeq.mk fun Kq hKq => ?_
  conv => whnf
  refine hp.kalloc z203 fun qp w hp hx => ?_
  conv => whnf
  refine hp.kst1 TTok (by rfl) 0 (by rfl) (by rfl) (by rfl) (by decide) fun w hp => ?_
  try simp only [List.set_cons_zero, List.set_cons_succ, EV.val] at hp
  conv => whnf
  refine hKq _ _ _ (.refl _) ?_
  clear hKq Kq
  conv => whnf
  have hp : HpM [] w0 w [blk qp [.int .u64 ((0 + 2 : Nat) : Int)] 203, blk q1 (kw .u32 (tabJ 0).2.1) 158, blk q0 (kw .u32 (tabJ 0).2.2) 157] := hp
  refine ⟨fun m e w' => ∃ (i qp : Nat), m + i = 310 ∧ e = [(0, .v (.pointer (some ⟨q0, 0, none⟩))), (1, .v (.pointer (some ⟨q1, 0, none⟩))), (2, .v (.int .i64 ((tabJ i).1 : Nat))), (3, .v (.pointer (some ⟨qp, 0, none⟩)))] ∧
      HpM [] w0 w' [blk qp [.int .u64 ((i + 2 : Nat) : Int)] 203, blk q1 (kw .u32 (tabJ i).2.1) 158, blk q0 (kw .u32 (tabJ i).2.2) 157],
    ⟨310, _, ⟨0, qp, by omega, rfl, hp⟩, sub_cons rfl (sub_cons rfl (sub_cons rfl (sub_cons rfl sub_nil)))⟩, ?_⟩
  clear hp hx
  repeat clear hp
  rintro m _ w ⟨i, qp, hm, rfl, hp⟩
  conv => whnf
  refine VSeq.mk fun Kq hKq => ?_
  conv => whnf
  refine VSeq.mk fun Kq hKq => ?_
  conv => whnf
  refine hKq _ _ _ (.refl _) ?_
  clear hKq Kq
  conv => whnf
  refine ⟨fun hlt => ?_, fun hlt => ?_⟩
  · have hlt := of_decide_eq_true hlt
    conv => whnf
    refine hKq _ _ _ (.refl _) ?_
    clear hKq Kq
    conv => whnf
    refine VSeq.mk fun Kq hKq => ?_
    conv => whnf
    refine VSeq.mk fun Kq hKq => ?_
    conv => whnf
    refine hKq _ _ _ (.refl _) ?_
    clear hKq Kq
    conv => whnf
    refine VSeq.mk fun Kq hKq => ?_
    conv => whnf
    refine VSeq.mk fun Kq hKq => ?_
    conv => whnf
    refine hKq _ _ _ (.refl _) ?_
    clear hKq Kq
    conv => whnf
    have hi : i < 310 := by
      rcases Nat.lt_or_ge i 310 with h | h
      · exact h
      · obtain rfl : i = 310 := by omega
        rw [tab_end] at hlt
        exact absurd hlt (by decide)
    have hn := tab_cnt i hi
    obtain ⟨hl1, hl2⟩ := tab_len i
    have hsu : tabJ (i + 1) = if isP (i + 2) = true then ((tabJ i).1 + 1, (tabJ i).2.1.set (tabJ i).1 (frN (cubE (i + 2))), if (tabJ i).1 < 8 then (tabJ i).2.2.set (tabJ i).1 (frN (sqrE (i + 2))) else (tabJ i).2.2) else tabJ i := rfl
    obtain ⟨n, hnd⟩ : ∃ n, (tabJ i).1 = n := ⟨_, rfl⟩
    obtain ⟨ks, hkd⟩ : ∃ ks, (tabJ i).2.1 = ks := ⟨_, rfl⟩
    obtain ⟨ss, hsd⟩ : ∃ ss, (tabJ i).2.2 = ss := ⟨_, rfl⟩
    have hti : tabJ i = (n, ks, ss) := by rw [← hnd, ← hkd, ← hsd]
    rw [hnd, hkd, hsd, hti] at hsu
    rw [hkd, hsd] at hp
    rw [hnd] at hn hlt ⊢
    rw [hkd] at hl1
    rw [hsd] at hl2
    clear hnd hkd hsd
    obtain ⟨p, hpd⟩ : ∃ p, i + 2 = p := ⟨_, rfl⟩
    rw [hpd] at hp hsu
    have hp31 : p ≤ 311 := by omega
    clear hti
    refine ⟨fun m e w' => ∃ (j : Nat) (ev : EV), m + j = 17 ∧ (∀ i, i < j → (i + 2) * (i + 2) ≤ p) ∧ ((∃ b, ev = litE (.bool b) ∧ tri p j = b) ∨ ev = .v (.bool (tri p j))) ∧ e = [(0, .v (.pointer (some ⟨q0, 0, none⟩))), (1, .v (.pointer (some ⟨q1, 0, none⟩))), (2, .v (.int .i64 n)), (3, .v (.pointer (some ⟨qp, 0, none⟩))), (4, ev), (5, .v (.int .u64 ((j + 2 : Nat) : Int)))] ∧
        HpM [] w0 w' [blk qp [.int .u64 (p : Nat)] 203, blk q1 (kw .u32 ks) 158, blk q0 (kw .u32 ss) 157],
      ⟨17, _, ⟨0, _, by omega, fun i hi => by omega, .inl ⟨true, rfl, rfl⟩, rfl, hp⟩, sub_cons rfl (sub_cons rfl (sub_cons rfl (sub_cons rfl (sub_cons rfl (sub_cons rfl sub_nil)))))⟩, ?_⟩
    clear hp
    repeat clear hp
    rintro m2 _ w ⟨j, ev, hm2, hall, hev, rfl, hp⟩
    have hj17 : (j + 2) * (j + 2) ≤ 361 := Nat.mul_le_mul (show j + 2 ≤ 19 by omega) (show j + 2 ≤ 19 by omega)
    have hsq : ((j + 2 : Nat) : Int) * ((j + 2 : Nat) : Int) = (((j + 2) * (j + 2) : Nat) : Int) := (Int.natCast_mul _ _).symm
    conv => whnf
    refine VSeq.mk fun Kq hKq => ?_
    conv => whnf
    refine VSeq.mk fun Kq hKq => ?_
    conv => whnf
    refine ⟨_, _, Blk.ld (hp.get (i := 0) rfl) TTok rfl (rfl), ?_⟩
    conv => whnf
    refine hKq _ _ _ (.refl _) ?_
    clear hKq Kq
    conv => whnf
    rw [hsq]
    obtain ⟨D, hD⟩ : ∃ D, (j + 2) * (j + 2) = D := ⟨_, rfl⟩
    rw [hD] at hj17 ⊢
    rw [show ((D : Nat) : Int) % 18446744073709551616 = (D : Nat) by omega]
    refine ⟨fun hlt2 => ?_, fun hlt2 => ?_⟩
    · have hlt2 := of_decide_eq_true hlt2
      conv => whnf
      refine hKq _ _ _ (.refl _) ?_
      clear hKq Kq
      conv => whnf
      refine VSeq.mk fun Kq hKq => ?_
      conv => whnf
      refine VSeq.mk fun Kq hKq => ?_
      conv => whnf
      have hj2 : j < 16 := by
        rcases Nat.lt_or_ge j 16 with h | h
        · exact h
        · have := Nat.mul_le_mul (show 18 ≤ j + 2 by omega) (show 18 ≤ j + 2 by omega)
          omega
      have hall2 : ∀ i, i < j + 1 → (i + 2) * (i + 2) ≤ p := fun i hi => by
        rcases Nat.lt_or_ge i j with h | h
        · exact hall i h
        · obtain rfl : i = j := by omega
          omega
      have hts : tri p (j + 1) = (tri p j && decide (p % (j + 2) ≠ 0)) := rfl
      have hmod : ((p : Nat) : Int) % ((j + 2 : Nat) : Int) = ((p % (j + 2) : Nat) : Int) := (Int.natCast_emod p (j + 2)).symm
      rcases hev with ⟨b, rfl, htr⟩ | rfl
      · cases b with
        | true =>
          rw [htr, Bool.true_and] at hts
          conv => whnf
          refine hKq _ _ _ (.refl _) ?_
          clear hKq Kq
          conv => whnf
          refine ⟨_, _, Blk.ld (hp.get (i := 0) rfl) TTok rfl (rfl), ?_⟩
          conv => whnf
          refine And.intro (by omega) ?_
          conv => whnf
          refine hKq _ _ _ (.refl _) ?_
          clear hKq Kq
          conv => whnf
          rw [hmod]
          rw [show (((j + 2 : Nat) : Int) + 1) % 18446744073709551616 = ((j + 1 + 2 : Nat) : Int) by omega]
          refine ⟨m2 - 1, _, by omega, ⟨j + 1, _, by omega, hall2, .inr ?_, rfl, hp⟩, sub_cons rfl (sub_cons rfl (sub_cons rfl (sub_cons rfl (sub_cons rfl (sub_cons rfl sub_nil)))))⟩
          rw [hts]
          exact congrArg (fun b => EV.v (.bool b)) (decide_eq_decide.2 (by omega))
        | false =>
          rw [htr, Bool.false_and] at hts
          conv => whnf
          refine hKq _ _ _ (.refl _) ?_
          clear hKq Kq
          conv => whnf
          refine hKq _ _ _ (.refl _) ?_
          clear hKq Kq
          conv => whnf
          rw [show (((j + 2 : Nat) : Int) + 1) % 18446744073709551616 = ((j + 1 + 2 : Nat) : Int) by omega]
          refine ⟨m2 - 1, _, by omega, ⟨j + 1, _, by omega, hall2, .inl ⟨false, rfl, hts⟩, rfl, hp⟩, sub_cons rfl (sub_cons rfl (sub_cons rfl (sub_cons rfl (sub_cons rfl (sub_cons rfl sub_nil)))))⟩
      · cases htr : tri p j with
        | true =>
          rw [htr, Bool.true_and] at hts
          conv => whnf
          refine hKq _ _ _ (.refl _) ?_
          clear hKq Kq
          conv => whnf
          refine And.intro (fun _ => ?_) (fun h => by cases h)
          conv => whnf
          refine ⟨_, _, Blk.ld (hp.get (i := 0) rfl) TTok rfl (rfl), ?_⟩
          conv => whnf
          refine And.intro (by omega) ?_
          conv => whnf
          refine hKq _ _ _ (.refl _) ?_
          clear hKq Kq
          conv => whnf
          rw [hmod]
          rw [show (((j + 2 : Nat) : Int) + 1) % 18446744073709551616 = ((j + 1 + 2 : Nat) : Int) by omega]
          refine ⟨m2 - 1, _, by omega, ⟨j + 1, _, by omega, hall2, .inr ?_, rfl, hp⟩, sub_cons rfl (sub_cons rfl (sub_cons rfl (sub_cons rfl (sub_cons rfl (sub_cons rfl sub_nil)))))⟩
          rw [hts]
          exact congrArg (fun b => EV.v (.bool b)) (decide_eq_decide.2 (by omega))
        | false =>
          rw [htr, Bool.false_and] at hts
          conv => whnf
          refine hKq _ _ _ (.refl _) ?_
          clear hKq Kq
          conv => whnf
          refine And.intro (fun h => by cases h) (fun _ => ?_)
          conv => whnf
          refine hKq _ _ _ (.refl _) ?_
          clear hKq Kq
          conv => whnf
          rw [show (((j + 2 : Nat) : Int) + 1) % 18446744073709551616 = ((j + 1 + 2 : Nat) : Int) by omega]
          refine ⟨m2 - 1, _, by omega, ⟨j + 1, _, by omega, hall2, .inl ⟨false, rfl, hts⟩, rfl, hp⟩, sub_cons rfl (sub_cons rfl (sub_cons rfl (sub_cons rfl (sub_cons rfl (sub_cons rfl sub_nil)))))⟩
    · have hlt2 := of_decide_eq_false hlt2
      conv => whnf
      clear hKq Kq
      refine hKq _ _ _ (.refl _) ?_
      clear hKq Kq
      conv => whnf
      refine VSeq.mk fun Kq hKq => ?_
      conv => whnf
      refine VSeq.mk fun Kq hKq => ?_
      conv => whnf
      have hpr := tri_isP p j (by omega) hall (by omega)
      rw [hpr] at hev
      have hfc := fraction_cube p qp (by omega) (hp.get (i := 0) rfl)
      have hln : n < ks.length := by omega
      clear hpr hlt2 hD hsq hall hm2
      rcases hev with ⟨b, rfl, hP⟩ | rfl
      · cases b with
        | true =>
          rw [hP, if_pos rfl] at hsu
          conv => whnf
          refine hKq _ _ _ (.refl _) ?_
          clear hKq Kq
          conv => whnf
          refine hKq _ _ _ (.refl _) ?_
          clear hKq Kq
          conv => whnf
          refine VSeq.mk fun Kq hKq => ?_
          conv => whnf
          refine V.CallsUse (hfc) fun w hx => ?_
          try (have hp := hp.call hx)
          conv => whnf
          refine ⟨n, ⟨by first | rfl | omega, by omega⟩, ?_⟩
          conv => whnf
          refine hp.kst1 (off := n) TTok (by rfl) 1 (by rfl) (by rfl) (by rfl) (by rw [kw_len]; omega) fun w hp => ?_
          try simp only [List.set_cons_zero, List.set_cons_succ, EV.val] at hp
          conv => whnf
          refine hKq _ _ _ (.refl _) ?_
          clear hKq Kq
          conv => whnf
          refine VSeq.mk fun Kq hKq => ?_
          conv => whnf
          refine VSeq.mk fun Kq hKq => ?_
          conv => whnf
          refine hKq _ _ _ (.refl _) ?_
          clear hKq Kq
          conv => whnf
          rw [kw_set] at hp
          refine ⟨fun h8 => ?_, fun h8 => ?_⟩
          · have h8 := of_decide_eq_true h8
            conv => whnf
            rw [if_pos (by omega)] at hsu
            have hfs := fraction_sqr p qp (by omega) (hp.get (i := 0) rfl)
            refine V.CallsUse (hfs) fun w hx => ?_
            try (have hp := hp.call hx)
            conv => whnf
            refine ⟨n, ⟨by first | rfl | omega, by omega⟩, ?_⟩
            conv => whnf
            refine hp.kst1 (off := n) TTok (by rfl) 2 (by rfl) (by rfl) (by rfl) (by rw [kw_len]; omega) fun w hp => ?_
            try simp only [List.set_cons_zero, List.set_cons_succ, EV.val] at hp
            conv => whnf
            refine hKq _ _ _ (.refl _) ?_
            clear hKq Kq
            conv => whnf
            refine Or.inl (And.intro (by omega) ?_)
            conv => whnf
            refine hKq _ _ _ (.refl _) ?_
            clear hKq Kq
            conv => whnf
            refine VSeq.mk fun Kq hKq => ?_
            conv => whnf
            refine VSeq.mk fun Kq hKq => ?_
            conv => whnf
            rw [kw_set] at hp
            refine ⟨_, _, Blk.ld (hp.get (i := 0) rfl) TTok rfl (rfl), ?_⟩
            conv => whnf
            refine hKq _ _ _ (.refl _) ?_
            clear hKq Kq
            conv => whnf
            refine hp.kalloc z203 fun qn w hp hx => ?_
            conv => whnf
            refine hp.kst1 TTok (by rfl) 0 (by rfl) (by rfl) (by rfl) (by exact Nat.zero_lt_one) fun w hp => ?_
            try simp only [List.set_cons_zero, List.set_cons_succ, EV.val] at hp
            conv => whnf
            refine hKq _ _ _ (.refl _) ?_
            clear hKq Kq
            conv => whnf
            refine ⟨_, _, Blk.ld (hp.get (i := 0) rfl) TTok rfl (rfl), ?_⟩
            conv => whnf
            rw [show (((p : Nat) : Int) + 1) % 18446744073709551616 = ((i + 1 + 2 : Nat) : Int) by omega]
            refine hp.kst1 TTok (by rfl) 0 (by rfl) (by rfl) (by rfl) (by exact Nat.zero_lt_one) fun w hp => ?_
            try simp only [List.set_cons_zero, List.set_cons_succ, EV.val] at hp
            conv => whnf
            have hp := hp.pick [0, 2, 3] (by decide)
            refine ⟨m - 1, _, by omega, ⟨i + 1, qn, by omega, by rw [hsu], by rw [hsu]; exact hp⟩, sub_cons rfl (sub_cons rfl (sub_cons rfl (sub_cons rfl sub_nil)))⟩
          · have h8 := of_decide_eq_false h8
            conv => whnf
            refine hKq _ _ _ (.refl _) ?_
            clear hKq Kq
            conv => whnf
            refine Or.inl (And.intro (by omega) ?_)
            conv => whnf
            refine hKq _ _ _ (.refl _) ?_
            clear hKq Kq
            conv => whnf
            refine VSeq.mk fun Kq hKq => ?_
            conv => whnf
            refine VSeq.mk fun Kq hKq => ?_
            conv => whnf
            rw [if_neg (by omega)] at hsu
            refine ⟨_, _, Blk.ld (hp.get (i := 0) rfl) TTok rfl (rfl), ?_⟩
            conv => whnf
            refine hKq _ _ _ (.refl _) ?_
            clear hKq Kq
            conv => whnf
            refine hp.kalloc z203 fun qn w hp hx => ?_
            conv => whnf
            refine hp.kst1 TTok (by rfl) 0 (by rfl) (by rfl) (by rfl) (by exact Nat.zero_lt_one) fun w hp => ?_
            try simp only [List.set_cons_zero, List.set_cons_succ, EV.val] at hp
            conv => whnf
            refine hKq _ _ _ (.refl _) ?_
            clear hKq Kq
            conv => whnf
            refine ⟨_, _, Blk.ld (hp.get (i := 0) rfl) TTok rfl (rfl), ?_⟩
            conv => whnf
            rw [show (((p : Nat) : Int) + 1) % 18446744073709551616 = ((i + 1 + 2 : Nat) : Int) by omega]
            refine hp.kst1 TTok (by rfl) 0 (by rfl) (by rfl) (by rfl) (by exact Nat.zero_lt_one) fun w hp => ?_
            try simp only [List.set_cons_zero, List.set_cons_succ, EV.val] at hp
            conv => whnf
            have hp := hp.pick [0, 2, 3] (by decide)
            refine ⟨m - 1, _, by omega, ⟨i + 1, qn, by omega, by rw [hsu], by rw [hsu]; exact hp⟩, sub_cons rfl (sub_cons rfl (sub_cons rfl (sub_cons rfl sub_nil)))⟩
        | false =>
          rw [hP, if_neg (by decide)] at hsu
          conv => whnf
          refine hKq _ _ _ (.refl _) ?_
          clear hKq Kq
          conv => whnf
          clear hKq Kq
          refine hKq _ _ _ (.refl _) ?_
          clear hKq Kq
          conv => whnf
          refine VSeq.mk fun Kq hKq => ?_
          conv => whnf
          refine VSeq.mk fun Kq hKq => ?_
          conv => whnf
          refine ⟨_, _, Blk.ld (hp.get (i := 0) rfl) TTok rfl (rfl), ?_⟩
          conv => whnf
          refine hKq _ _ _ (.refl _) ?_
          clear hKq Kq
          conv => whnf
          refine hp.kalloc z203 fun qn w hp hx => ?_
          conv => whnf
          refine hp.kst1 TTok (by rfl) 0 (by rfl) (by rfl) (by rfl) (by exact Nat.zero_lt_one) fun w hp => ?_
          try simp only [List.set_cons_zero, List.set_cons_succ, EV.val] at hp
          conv => whnf
          refine hKq _ _ _ (.refl _) ?_
          clear hKq Kq
          conv => whnf
          refine ⟨_, _, Blk.ld (hp.get (i := 0) rfl) TTok rfl (rfl), ?_⟩
          conv => whnf
          rw [show (((p : Nat) : Int) + 1) % 18446744073709551616 = ((i + 1 + 2 : Nat) : Int) by omega]
          refine hp.kst1 TTok (by rfl) 0 (by rfl) (by rfl) (by rfl) (by exact Nat.zero_lt_one) fun w hp => ?_
          try simp only [List.set_cons_zero, List.set_cons_succ, EV.val] at hp
          conv => whnf
          have hp := hp.pick [0, 2, 3] (by decide)
          refine ⟨m - 1, _, by omega, ⟨i + 1, qn, by omega, by rw [hsu], by rw [hsu]; exact hp⟩, sub_cons rfl (sub_cons rfl (sub_cons rfl (sub_cons rfl sub_nil)))⟩
      · cases hP : isP p with
        | false =>
          rw [hP, if_neg (by decide)] at hsu
          conv => whnf
          refine hKq _ _ _ (.refl _) ?_
          clear hKq Kq
          conv => whnf
          refine And.intro (fun _ => ?_) (fun h => by cases h)
          conv => whnf
          clear hKq Kq
          refine hKq _ _ _ (.refl _) ?_
          clear hKq Kq
          conv => whnf
          refine VSeq.mk fun Kq hKq => ?_
          conv => whnf
          refine VSeq.mk fun Kq hKq => ?_
          conv => whnf
          refine ⟨_, _, Blk.ld (hp.get (i := 0) rfl) TTok rfl (rfl), ?_⟩
          conv => whnf
          refine hKq _ _ _ (.refl _) ?_
          clear hKq Kq
          conv => whnf
          refine hp.kalloc z203 fun qn w hp hx => ?_
          conv => whnf
          refine hp.kst1 TTok (by rfl) 0 (by rfl) (by rfl) (by rfl) (by exact Nat.zero_lt_one) fun w hp => ?_
          try simp only [List.set_cons_zero, List.set_cons_succ, EV.val] at hp
          conv => whnf
          refine hKq _ _ _ (.refl _) ?_
          clear hKq Kq
          conv => whnf
          refine ⟨_, _, Blk.ld (hp.get (i := 0) rfl) TTok rfl (rfl), ?_⟩
          conv => whnf
          rw [show (((p : Nat) : Int) + 1) % 18446744073709551616 = ((i + 1 + 2 : Nat) : Int) by omega]
          refine hp.kst1 TTok (by rfl) 0 (by rfl) (by rfl) (by rfl) (by exact Nat.zero_lt_one) fun w hp => ?_
          try simp only [List.set_cons_zero, List.set_cons_succ, EV.val] at hp
          conv => whnf
          have hp := hp.pick [0, 2, 3] (by decide)
          refine ⟨m - 1, _, by omega, ⟨i + 1, qn, by omega, by rw [hsu], by rw [hsu]; exact hp⟩, sub_cons rfl (sub_cons rfl (sub_cons rfl (sub_cons rfl sub_nil)))⟩
        | true =>
          rw [hP, if_pos rfl] at hsu
          conv => whnf
          refine hKq _ _ _ (.refl _) ?_
          clear hKq Kq
          conv => whnf
          refine And.intro (fun h => by cases h) (fun _ => ?_)
          conv => whnf
          refine hKq _ _ _ (.refl _) ?_
          clear hKq Kq
          conv => whnf
          refine VSeq.mk fun Kq hKq => ?_
          conv => whnf
          refine V.CallsUse (hfc) fun w hx => ?_
          try (have hp := hp.call hx)
          conv => whnf
          refine ⟨n, ⟨by first | rfl | omega, by omega⟩, ?_⟩
          conv => whnf
          refine hp.kst1 (off := n) TTok (by rfl) 1 (by rfl) (by rfl) (by rfl) (by rw [kw_len]; omega) fun w hp => ?_
          try simp only [List.set_cons_zero, List.set_cons_succ, EV.val] at hp
          conv => whnf
          refine hKq _ _ _ (.refl _) ?_
          clear hKq Kq
          conv => whnf
          refine VSeq.mk fun Kq hKq => ?_
          conv => whnf
          refine VSeq.mk fun Kq hKq => ?_
          conv => whnf
          refine hKq _ _ _ (.refl _) ?_
          clear hKq Kq
          conv => whnf
          rw [kw_set] at hp
          refine ⟨fun h8 => ?_, fun h8 => ?_⟩
          · have h8 := of_decide_eq_true h8
            conv => whnf
            rw [if_pos (by omega)] at hsu
            have hfs := fraction_sqr p qp (by omega) (hp.get (i := 0) rfl)
            refine V.CallsUse (hfs) fun w hx => ?_
            try (have hp := hp.call hx)
            conv => whnf
            refine ⟨n, ⟨by first | rfl | omega, by omega⟩, ?_⟩
            conv => whnf
            refine hp.kst1 (off := n) TTok (by rfl) 2 (by rfl) (by rfl) (by rfl) (by rw [kw_len]; omega) fun w hp => ?_
            try simp only [List.set_cons_zero, List.set_cons_succ, EV.val] at hp
            conv => whnf
            refine hKq _ _ _ (.refl _) ?_
            clear hKq Kq
            conv => whnf
            refine Or.inl (And.intro (by omega) ?_)
            conv => whnf
            refine hKq _ _ _ (.refl _) ?_
            clear hKq Kq
            conv => whnf
            refine VSeq.mk fun Kq hKq => ?_
            conv => whnf
            refine VSeq.mk fun Kq hKq => ?_
            conv => whnf
            rw [kw_set] at hp
            refine ⟨_, _, Blk.ld (hp.get (i := 0) rfl) TTok rfl (rfl), ?_⟩
            conv => whnf
            refine hKq _ _ _ (.refl _) ?_
            clear hKq Kq
            conv => whnf
            refine hp.kalloc z203 fun qn w hp hx => ?_
            conv => whnf
            refine hp.kst1 TTok (by rfl) 0 (by rfl) (by rfl) (by rfl) (by exact Nat.zero_lt_one) fun w hp => ?_
            try simp only [List.set_cons_zero, List.set_cons_succ, EV.val] at hp
            conv => whnf
            refine hKq _ _ _ (.refl _) ?_
            clear hKq Kq
            conv => whnf
            refine ⟨_, _, Blk.ld (hp.get (i := 0) rfl) TTok rfl (rfl), ?_⟩
            conv => whnf
            rw [show (((p : Nat) : Int) + 1) % 18446744073709551616 = ((i + 1 + 2 : Nat) : Int) by omega]
            refine hp.kst1 TTok (by rfl) 0 (by rfl) (by rfl) (by rfl) (by exact Nat.zero_lt_one) fun w hp => ?_
            try simp only [List.set_cons_zero, List.set_cons_succ, EV.val] at hp
            conv => whnf
            have hp := hp.pick [0, 2, 3] (by decide)
            refine ⟨m - 1, _, by omega, ⟨i + 1, qn, by omega, by rw [hsu], by rw [hsu]; exact hp⟩, sub_cons rfl (sub_cons rfl (sub_cons rfl (sub_cons rfl sub_nil)))⟩
          · have h8 := of_decide_eq_false h8
            conv => whnf
            refine hKq _ _ _ (.refl _) ?_
            clear hKq Kq
            conv => whnf
            refine Or.inl (And.intro (by omega) ?_)
            conv => whnf
            refine hKq _ _ _ (.refl _) ?_
            clear hKq Kq
            conv => whnf
            refine VSeq.mk fun Kq hKq => ?_
            conv => whnf
            refine VSeq.mk fun Kq hKq => ?_
            conv => whnf
            rw [if_neg (by omega)] at hsu
            refine ⟨_, _, Blk.ld (hp.get (i := 0) rfl) TTok rfl (rfl), ?_⟩
            conv => whnf
            refine hKq _ _ _ (.refl _) ?_
            clear hKq Kq
            conv => whnf
            refine hp.kalloc z203 fun qn w hp hx => ?_
            conv => whnf
            refine hp.kst1 TTok (by rfl) 0 (by rfl) (by rfl) (by rfl) (by exact Nat.zero_lt_one) fun w hp => ?_
            try simp only [List.set_cons_zero, List.set_cons_succ, EV.val] at hp
            conv => whnf
            refine hKq _ _ _ (.refl _) ?_
            clear hKq Kq
            conv => whnf
            refine ⟨_, _, Blk.ld (hp.get (i := 0) rfl) TTok rfl (rfl), ?_⟩
            conv => whnf
            rw [show (((p : Nat) : Int) + 1) % 18446744073709551616 = ((i + 1 + 2 : Nat) : Int) by omega]
            refine hp.kst1 TTok (by rfl) 0 (by rfl) (by rfl) (by rfl) (by exact Nat.zero_lt_one) fun w hp => ?_
            try simp only [List.set_cons_zero, List.set_cons_succ, EV.val] at hp
            conv => whnf
            have hp := hp.pick [0, 2, 3] (by decide)
            refine ⟨m - 1, _, by omega, ⟨i + 1, qn, by omega, by rw [hsu], by rw [hsu]; exact hp⟩, sub_cons rfl (sub_cons rfl (sub_cons rfl (sub_cons rfl sub_nil)))⟩
  · have hlt := of_decide_eq_false hlt
    conv => whnf
    clear hKq Kq
    refine hKq _ _ _ (.refl _) ?_
    clear hKq Kq
    conv => whnf
    refine VSeq.mk fun Kq hKq => ?_
    conv => whnf
    have hi : i = 310 := by
      rcases Nat.lt_or_ge i 310 with h | h
      · have := tab_cnt i h; omega
      · omega
    subst hi
    rw [tab_end] at hp
    refine v_mtB TTok FFok mixed [2, 3] (.q 0 (.br 1 2 (.m 2 (.m 3 .nil)) (.m 1 (.m 3 .nil)))) (by kernel_rfl) ?_
    conv => whnf
    refine ⟨_, fun w' hx' => Blk.ldN (Blk.ext (hp.get (i := 2) rfl) hx') TTok rfl (by rfl), ?_⟩
    conv => whnf
    refine And.intro ?_ ?_
    · intro w hx
      try (have hp := hp.call hx)
      conv => whnf
      refine ⟨_, _, Blk.ldN (hp.get (i := 1) rfl) TTok rfl (by rfl), ?_⟩
      conv => whnf
      refine And.intro (fun h => h) ?_
      conv => whnf
      intro w hx
      try (have hp := hp.call hx)
      conv => whnf
      refine hp.kstA TTok rfl 2 rfl (by rfl) (kw_one _ _) (by rfl) fun w hp => ?_
      try simp only [List.set_cons_zero, List.set_cons_succ, EV.val] at hp
      conv => whnf
      intro w hx
      try (have hp := hp.call hx)
      conv => whnf
      refine hp.kstA TTok rfl 1 rfl (by rfl) (kw_one _ _) (by rfl) fun w hp => ?_
      try simp only [List.set_cons_zero, List.set_cons_succ, EV.val] at hp
      conv => whnf
      intro w hx
      try (have hp := hp.call hx)
      conv => whnf
      refine hKq _ _ _ (.refl _) ?_
      clear hKq Kq
      conv => whnf
      exact ⟨_, Blk.lvN (hp.get (i := 2) rfl) TTok rfl (by rfl), _, Blk.lvN (hp.get (i := 1) rfl) TTok rfl (by rfl), rfl, hp.ext⟩
    · intro w hx
      try (have hp := hp.call hx)
      conv => whnf
      refine hp.kstA TTok rfl 2 rfl (by rfl) (kw_one _ _) (by rfl) fun w hp => ?_
      try simp only [List.set_cons_zero, List.set_cons_succ, EV.val] at hp
      conv => whnf
      intro w hx
      try (have hp := hp.call hx)
      conv => whnf
      refine ⟨_, _, Blk.ldN (hp.get (i := 1) rfl) TTok rfl (by rfl), ?_⟩
      conv => whnf
      refine And.intro (fun h => h) ?_
      conv => whnf
      intro w hx
      try (have hp := hp.call hx)
      conv => whnf
      refine hp.kstA TTok rfl 1 rfl (by rfl) (kw_one _ _) (by rfl) fun w hp => ?_
      try simp only [List.set_cons_zero, List.set_cons_succ, EV.val] at hp
      conv => whnf
      intro w hx
      try (have hp := hp.call hx)
      conv => whnf
      refine hKq _ _ _ (.refl _) ?_
      clear hKq Kq
      conv => whnf
      exact ⟨_, Blk.lvN (hp.get (i := 2) rfl) TTok rfl (by rfl), _, Blk.lvN (hp.get (i := 1) rfl) TTok rfl (by rfl), rfl, hp.ext⟩
def dropB (s : ByteArray) (k : Nat) : ByteArray := ⟨(s.data.toList.drop (64 * k)).toArray⟩
def blkB (s : ByteArray) (k : Nat) : ByteArray := ⟨((s.data.toList.drop (64 * k)).take 64).toArray⟩
theorem dropB_size (s : ByteArray) (k : Nat) : (dropB s k).size = s.size - 64 * k := by
  unfold dropB; rw [bA_size, List.length_drop, toList_len]
theorem blkB_size (s : ByteArray) (k : Nat) (h : 64 * k + 64 ≤ s.size) : (blkB s k).size = 64 := by
  unfold blkB; rw [bA_size, List.length_take, List.length_drop, toList_len]; omega
theorem ext_list (s : ByteArray) (a b : Nat) : (s.extract a b).data.toList = (s.data.toList.drop a).take (b - a) := by
  rw [ByteArray.data_extract, Array.toList_extract, List.extract_eq_take_drop]
theorem dropB_head (s : ByteArray) (k : Nat) : (dropB s k).extract 0 64 = blkB s k := by
  apply ba_eq
  rw [ext_list, List.drop_zero]
  rfl
theorem dropB_tail (s : ByteArray) (k : Nat) : (dropB s k).extract 64 (dropB s k).size = dropB s (k + 1) := by
  apply ba_eq
  rw [ext_list, dropB_size]
  show ((s.data.toList.drop (64 * k)).drop 64).take _ = s.data.toList.drop (64 * (k + 1))
  rw [List.drop_drop, List.take_of_length_le (by rw [List.length_drop, toList_len]; omega)]
  rfl
theorem dropB_zero (s : ByteArray) : dropB s 0 = s := by
  apply ba_eq; rfl
theorem blocks_iter (s : ByteArray) (bs : Nat) :
    Iter Tryz.prog 192 [.pointer (some ⟨bs, 0, none⟩)] [bs] (fun W => Blk W bs [.string s] 9) (fun k => [.string (blkB s k)]) (fun k => k = s.size / 64) (s.size / 64 + 1) := by
  intro l J Jx W hb hN hJ hJx hY h0
  refine (v_fn (R := fun _ B => (∃ k, k = s.size / 64 ∧ J k B) ∨ ∃ k, Jx k B) TTok FFok (f := 192) rfl rfl (Nat.le_of_ble_eq_true rfl) ?_).mono ?_
  rotate_left
  · rintro e B ⟨v, rfl, h⟩; exact ⟨⟨v, rfl⟩, h⟩
  rw [← dropB_zero s] at hb
  conv => whnf
  refine ⟨fun m l' w => ∃ (k : Nat), m + k = s.size / 64 ∧ l' = [(0, .v (.func (.yield l) #[] #[])), (1, .v (.pointer (some ⟨bs, 0, none⟩)))] ∧ J k w ∧ Blk w bs [.string (dropB s k)] 9,
    ⟨s.size / 64, _, ⟨0, by omega, rfl, h0, hb⟩, sub_cons rfl (sub_cons rfl sub_nil)⟩, ?_⟩
  clear h0 hb
  rintro m _ w ⟨k, hk, rfl, hj, hb⟩
  have hp := (HpM.nil0 [bs] w).take hb (by simp) (by simp)
  have hds := dropB_size s k
  conv => whnf
  refine VSeq.mk fun Kq hKq => ?_
  conv => whnf
  refine VSeq.mk fun Kq hKq => ?_
  conv => whnf
  refine ⟨_, _, Blk.ld (hp.get (i := 0) rfl) TTok rfl (rfl), ?_⟩
  conv => whnf
  refine hKq _ _ _ (.refl _) ?_
  clear hKq Kq
  conv => whnf
  refine ⟨fun hlt => ?_, fun hlt => ?_⟩
  · have hlt := of_decide_eq_true hlt
    conv => whnf
    refine hKq _ _ _ (.refl _) ?_
    clear hKq Kq
    conv => whnf
    refine VSeq.mk fun Kq hKq => ?_
    conv => whnf
    refine VSeq.mk fun Kq hKq => ?_
    conv => whnf
    have hk2 : k < s.size / 64 := by omega
    refine ⟨_, _, Blk.ld (hp.get (i := 0) rfl) TTok rfl (rfl), ?_⟩
    conv => whnf
    refine ⟨64, ⟨by first | rfl | omega, by omega⟩, ?_⟩
    conv => whnf
    rw [dropB_head]
    have hj1 := hJ k _ _ hj hp.extM
    refine y_mono (hY k _ hj1 (by omega)) ?_
    rintro e w' (⟨rfl, hj2, hkp⟩ | ⟨rfl, hx2⟩)
    · have hb' : Blk w' bs [.string (dropB s k)] 9 := Blk.same (hp.get (i := 0) rfl) (hkp bs (by simp))
      refine ⟨_, rfl, ?_⟩
      have hp := (HpM.nil0 [bs] w').take hb' (by simp) (by simp)
      conv => whnf
      refine hKq _ _ _ (.refl _) ?_
      clear hKq Kq
      conv => whnf
      refine ⟨fun h => (by cases h), fun _ => ?_⟩
      conv => whnf
      refine hKq _ _ _ (.refl _) ?_
      clear hKq Kq
      conv => whnf
      refine ⟨_, _, Blk.ld (hp.get (i := 0) rfl) TTok rfl (rfl), ?_⟩
      conv => whnf
      refine ⟨64, ⟨by first | rfl | omega, by omega⟩, ?_⟩
      conv => whnf
      rw [dropB_tail]
      refine hp.kst1 TTok (by rfl) 0 (by rfl) (by rfl) (by rfl) (by exact Nat.zero_lt_one) fun w hp => ?_
      try simp only [List.set_cons_zero, List.set_cons_succ, EV.val] at hp
      conv => whnf
      exact ⟨m - 1, _, by omega, ⟨k + 1, by omega, rfl, hJ _ _ _ hj2 hp.extM, hp.get (i := 0) rfl⟩, sub_cons rfl (sub_cons rfl sub_nil)⟩
    · refine ⟨_, rfl, ?_⟩
      conv => whnf
      refine hKq _ _ _ (.refl _) ?_
      clear hKq Kq
      conv => whnf
      refine ⟨fun _ => ?_, fun h => (by cases h)⟩
      conv => whnf
      exact .inr ⟨k, hx2⟩
  · have hlt := of_decide_eq_false hlt
    conv => whnf
    have hk2 : k = s.size / 64 := by omega
    exact .inl ⟨k, hk2, hj⟩
theorem blocks_c {M : List Nat} {w0 w : World} {H : List It} (hp : HpM M w0 w H) (s : ByteArray) :
    Calls Tryz.prog 183 #[.string s] w fun e w' => ∃ v, e = .returned v ∧ ∃ bs, v = .func (.func 192) #[] #[.pointer (some ⟨bs, 0, none⟩)] ∧
      HpM M w0 w' (blk bs [.string s] 9 :: H) ∧ Ext w w' := by
  refine v_fn (args := [.string s]) TTok FFok (f := 183) rfl rfl (Nat.le_of_ble_eq_true rfl) ?_
  conv => whnf
  refine VSeq.mk fun Kq hKq => ?_
  conv => whnf
  refine hp.kbox [.string s] rfl fun bs w1 hp hx1 => ?_
  conv => whnf
  refine hKq _ _ _ (.refl _) ?_
  clear hKq Kq
  conv => whnf
  refine VSeq.mk fun Kq hKq => ?_
  conv => whnf
  refine hKq _ _ _ (.refl _) ?_
  clear hKq Kq
  conv => whnf
  exact ⟨bs, rfl, hp, hx1⟩
end Go.Proofs.YtmlmfmdmomegpaaGreatDoor
