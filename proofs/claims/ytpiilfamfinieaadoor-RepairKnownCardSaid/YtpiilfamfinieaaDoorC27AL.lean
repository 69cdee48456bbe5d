/- Chapter 27: alone on a line. -/
import Derived.Test.YtpiilfamfinieaaDoorC27DA
namespace Go.Proofs.YtpiilfamfinieaaDoor
set_option linter.unusedSimpArgs false
set_option linter.unusedVariables false
open Go.RowKit V
def maskN (p : Nat → Bool) : Nat → Nat
  | 0 => 0
  | k + 1 => if p k = true then maskN p k ||| 2 ^ k else maskN p k
theorem maskN_bit (p : Nat → Bool) (j : Nat) : ∀ k, (maskN p k).testBit j = (decide (j < k) && p j)
  | 0 => by simp [maskN]
  | k + 1 => by
    have ih := maskN_bit p j k
    rw [maskN]
    split
    · rename_i hk
      rw [Nat.testBit_or, ih, Nat.testBit_two_pow]
      by_cases e : k = j
      · subst e; simp [hk]
      · have : (j < k ↔ j < k + 1) := by omega
        simp [e, this]
    · rename_i hk
      rw [ih]
      by_cases e : k = j
      · subst e; simp [hk]
      · have : (j < k ↔ j < k + 1) := by omega
        simp [this]
theorem maskN_lt (p : Nat → Bool) : ∀ k, maskN p k < 2 ^ k
  | 0 => by simp [maskN]
  | k + 1 => by
    have ih := maskN_lt p k
    rw [maskN]
    have h2 : 2 ^ k < 2 ^ (k + 1) := Nat.pow_lt_pow_right (by omega) (by omega)
    split
    · exact Nat.or_lt_two_pow (by omega) h2
    · omega
theorem maskN_line (r c l : Nat) (hc : 0 < c) (hl : l < r + c) (p : Nat → Bool) (h : ∀ i, i < r * c → p i = onL r c l i) : maskN p (r * c) = lineS r c l := by
  apply Nat.eq_of_testBit_eq
  intro j
  rw [maskN_bit, lineS_bit r c l j hc hl, Bool.and_comm]
  by_cases hj : j < r * c
  · rw [h j hj]
  · simp [hj]
/-- a place of a set is the only one on a line with a known cover -/
def aloneB (r c kr kc set i : Nat) : Bool := kr.testBit (i / c) && decide (set &&& lineS r c (i / c) = 2 ^ i) || kc.testBit (i % c) && decide (set &&& lineS r c (r + i % c) = 2 ^ i)
set_option maxHeartbeats 4000000 in
theorem alone_p (r c x kr kc set i : Nat) (h : Shp r c) (hx : x < 18446744073709551616) (h1 : kr < 18446744073709551616) (h2 : kc < 18446744073709551616) (h3 : set < 18446744073709551616) (hi : i < r * c) :
    PureF Tryd.prog 29 #[.int .i64 r, .int .i64 c, .agg #[.int .u64 x, .int .u64 kr, .int .u64 kc], .int .u64 set, .int .i64 i] (.bool (aloneB r c kr kc set i)) := by
  have h' := h
  obtain ⟨g1, g2, g3, g4⟩ := h'
  have hrc : r * c ≤ 6 * 8 := Nat.mul_le_mul (by omega) (by omega)
  have hrc2 : ((r : Int) * (c : Int)) = ((r * c : Nat) : Int) := by simp
  have hc0 : 0 < c := by omega
  have hdi : i / c < r := Nat.div_lt_of_lt_mul (by rw [Nat.mul_comm]; exact hi)
  have hmi : i % c < c := Nat.mod_lt _ hc0
  have hR := maskN_line r c (i / c) hc0 (by omega) (fun k => k / c == i / c) (fun k _ => by unfold onL; rw [if_pos hdi])
  have hC := maskN_line r c (r + i % c) hc0 (by omega) (fun k => k % c == i % c) (fun k _ => by unfold onL; rw [if_neg (by omega), Nat.add_sub_cancel_left])
  first | refine v_pure TTok FFok Tryd.func29 rfl rfl fun w0 => ?_ | refine v_pure (args := []) TTok FFok Tryd.func29 rfl rfl fun w0 => ?_
  conv => whnf
  refine VSeq.mk fun Kq hKq => ?_
  conv => whnf
  have hp := Hp.nil w0
  refine hp.kbox ([.int .u64 x, .int .u64 kr, .int .u64 kc]) rfl fun qb w hp hx => ?_
  conv => whnf
  refine hKq _ _ _ (V.Sub.refl _) ?_
  clear hKq Kq
  conv => whnf
  refine VSeq.mk fun Kq hKq => ?_
  conv => whnf
  refine hKq _ _ _ (V.Sub.refl _) ?_
  clear hKq Kq
  conv => whnf
  refine VSeq.mk fun Kq hKq => ?_
  conv => whnf
  refine VSeq.mk fun Kq hKq => ?_
  conv => whnf
  refine And.intro (by omega) ?_
  conv => whnf
  refine hKq _ _ _ (V.Sub.refl _) ?_
  clear hKq Kq
  conv => whnf
  rw [hrc2]
  refine ⟨fun m l w => ∃ (k : Nat), m + k = r * c ∧ l = [(0, .v (.int .i64 r)), (1, .v (.int .i64 c)), (3, .v (.int .u64 set)), (4, .v (.int .i64 i)), (7, .v (.pointer (some ⟨qb, 0, none⟩))), (16, .v (.int .i64 (r * c : Nat))), (17, .v (.int .i64 k)), (11, .v (.int .u64 (maskN (fun k => k / c == i / c) k : Nat))), (12, .v (.int .u64 (maskN (fun k => k % c == i % c) k : Nat)))] ∧ HpM [] w0 w [blk qb [.int .u64 x, .int .u64 kr, .int .u64 kc] 42],
    ⟨r * c, _, ⟨0, by omega, rfl, hp⟩, sub_cons rfl (sub_cons rfl (sub_cons rfl (sub_cons rfl (sub_cons rfl (sub_cons rfl (sub_cons rfl (sub_cons rfl (sub_cons rfl sub_nil))))))))⟩, ?_⟩
  clear hp hx
  repeat clear hp
  rintro m _ w ⟨k, hm, rfl, hp⟩
  conv => whnf
  refine VSeq.mk fun Kq hKq => ?_
  conv => whnf
  refine hKq _ _ _ (V.Sub.refl _) ?_
  clear hKq Kq
  conv => whnf
  refine VSeq.mk fun Kq hKq => ?_
  conv => whnf
  refine ⟨fun hlt => ?_, fun hlt => ?_⟩
  · have hlt := of_decide_eq_true hlt
    conv => whnf
    refine hKq _ _ _ (V.Sub.refl _) ?_
    clear hKq Kq
    conv => whnf
    refine VSeq.mk fun Kq hKq => ?_
    conv => whnf
    refine VSeq.mk fun Kq hKq => ?_
    conv => whnf
    refine hKq _ _ _ (V.Sub.refl _) ?_
    clear hKq Kq
    conv => whnf
    refine VSeq.mk fun Kq hKq => ?_
    conv => whnf
    refine VSeq.mk fun Kq hKq => ?_
    conv => whnf
    have hk : k < 64 := by omega
    have hpk := pow_lt64 k hk
    have hm1 := maskN_lt (fun k => k / c == i / c) k
    have hm2 := maskN_lt (fun k => k % c == i % c) k
    have hdk : ((k : Int) / (c : Int)) = ((k / c : Nat) : Int) := by simp
    have hdi2 : ((i : Int) / (c : Int)) = ((i / c : Nat) : Int) := by simp
    have hmk : ((k : Int) % (c : Int)) = ((k % c : Nat) : Int) := by simp
    have hmi2 : ((i : Int) % (c : Int)) = ((i % c : Nat) : Int) := by simp
    refine v_mixA TTok FFok mixed [(0, false), (1, false), (2, false), (3, false), (4, false), (5, false), (6, false)] (by kernel_rfl) ?_
    conv => whnf
    refine And.intro (by omega) ?_
    conv => whnf
    refine And.intro (by omega) ?_
    conv => whnf
    intro w hx
    try (have hp := hp.call hx)
    conv => whnf
    refine hKq _ _ _ (V.Sub.refl _) ?_
    clear hKq Kq
    conv => whnf
    refine ⟨fun hq1 => ?_, fun hq1 => ?_⟩
    · have hq1 := of_decide_eq_true hq1
      conv => whnf
      have e1 : (k / c == i / c) = true := by rw [beq_iff_eq]; omega
      refine ⟨k, ⟨by first | rfl | omega, by omega⟩, ?_⟩
      conv => whnf
      rw [shl_one k hk]
      refine ⟨maskN (fun k => k / c == i / c) k, 2 ^ k, maskN (fun k => k / c == i / c) (k + 1), ⟨by first | rfl | omega, by first | rfl | omega, by omega, by omega⟩, by (dsimp only; exact (if_pos e1).symm), ?_⟩
      conv => whnf
      refine hKq _ _ _ (V.Sub.refl _) ?_
      clear hKq Kq
      conv => whnf
      refine VSeq.mk fun Kq hKq => ?_
      conv => whnf
      refine v_mixA TTok FFok mixed [(0, false), (1, false), (2, false), (3, false), (4, false), (5, false), (6, false)] (by kernel_rfl) ?_
      conv => whnf
      refine And.intro (by omega) ?_
      conv => whnf
      refine And.intro (by omega) ?_
      conv => whnf
      intro w hx
      try (have hp := hp.call hx)
      conv => whnf
      refine hKq _ _ _ (V.Sub.refl _) ?_
      clear hKq Kq
      conv => whnf
      refine ⟨fun hq2 => ?_, fun hq2 => ?_⟩
      · have hq2 := of_decide_eq_true hq2
        conv => whnf
        have e2 : (k % c == i % c) = true := by rw [beq_iff_eq]; omega
        refine ⟨k, ⟨by first | rfl | omega, by omega⟩, ?_⟩
        conv => whnf
        rw [shl_one k hk]
        refine ⟨maskN (fun k => k % c == i % c) k, 2 ^ k, maskN (fun k => k % c == i % c) (k + 1), ⟨by first | rfl | omega, by first | rfl | omega, by omega, by omega⟩, by (dsimp only; exact (if_pos e2).symm), ?_⟩
        conv => whnf
        refine hKq _ _ _ (V.Sub.refl _) ?_
        clear hKq Kq
        conv => whnf
        refine And.intro (by omega) ?_
        conv => whnf
        exact ⟨m - 1, _, by omega, ⟨k + 1, by omega, rfl, hp⟩, sub_cons rfl (sub_cons rfl (sub_cons rfl (sub_cons rfl (sub_cons rfl (sub_cons rfl (sub_cons rfl (sub_cons rfl (sub_cons rfl sub_nil))))))))⟩
      · have hq2 := of_decide_eq_false hq2
        conv => whnf
        refine hKq _ _ _ (V.Sub.refl _) ?_
        clear hKq Kq
        conv => whnf
        refine And.intro (by omega) ?_
        conv => whnf
        have e2 : ¬ (k % c == i % c) = true := by rw [beq_iff_eq]; omega
        rw [show maskN (fun k => k % c == i % c) k = maskN (fun k => k % c == i % c) (k + 1) from (if_neg e2).symm]
        exact ⟨m - 1, _, by omega, ⟨k + 1, by omega, rfl, hp⟩, sub_cons rfl (sub_cons rfl (sub_cons rfl (sub_cons rfl (sub_cons rfl (sub_cons rfl (sub_cons rfl (sub_cons rfl (sub_cons rfl sub_nil))))))))⟩
    · have hq1 := of_decide_eq_false hq1
      conv => whnf
      refine hKq _ _ _ (V.Sub.refl _) ?_
      clear hKq Kq
      conv => whnf
      refine VSeq.mk fun Kq hKq => ?_
      conv => whnf
      have e1 : ¬ (k / c == i / c) = true := by rw [beq_iff_eq]; omega
      rw [show maskN (fun k => k / c == i / c) k = maskN (fun k => k / c == i / c) (k + 1) from (if_neg e1).symm]
      refine v_mixA TTok FFok mixed [(0, false), (1, false), (2, false), (3, false), (4, false), (5, false), (6, false)] (by kernel_rfl) ?_
      conv => whnf
      refine And.intro (by omega) ?_
      conv => whnf
      refine And.intro (by omega) ?_
      conv => whnf
      intro w hx
      try (have hp := hp.call hx)
      conv => whnf
      refine hKq _ _ _ (V.Sub.refl _) ?_
      clear hKq Kq
      conv => whnf
      refine ⟨fun hq2 => ?_, fun hq2 => ?_⟩
      · have hq2 := of_decide_eq_true hq2
        conv => whnf
        have e2 : (k % c == i % c) = true := by rw [beq_iff_eq]; omega
        refine ⟨k, ⟨by first | rfl | omega, by omega⟩, ?_⟩
        conv => whnf
        rw [shl_one k hk]
        refine ⟨maskN (fun k => k % c == i % c) k, 2 ^ k, maskN (fun k => k % c == i % c) (k + 1), ⟨by first | rfl | omega, by first | rfl | omega, by omega, by omega⟩, by (dsimp only; exact (if_pos e2).symm), ?_⟩
        conv => whnf
        refine hKq _ _ _ (V.Sub.refl _) ?_
        clear hKq Kq
        conv => whnf
        refine And.intro (by omega) ?_
        conv => whnf
        exact ⟨m - 1, _, by omega, ⟨k + 1, by omega, rfl, hp⟩, sub_cons rfl (sub_cons rfl (sub_cons rfl (sub_cons rfl (sub_cons rfl (sub_cons rfl (sub_cons rfl (sub_cons rfl (sub_cons rfl sub_nil))))))))⟩
      · have hq2 := of_decide_eq_false hq2
        conv => whnf
        refine hKq _ _ _ (V.Sub.refl _) ?_
        clear hKq Kq
        conv => whnf
        refine And.intro (by omega) ?_
        conv => whnf
        have e2 : ¬ (k % c == i % c) = true := by rw [beq_iff_eq]; omega
        rw [show maskN (fun k => k % c == i % c) k = maskN (fun k => k % c == i % c) (k + 1) from (if_neg e2).symm]
        exact ⟨m - 1, _, by omega, ⟨k + 1, by omega, rfl, hp⟩, sub_cons rfl (sub_cons rfl (sub_cons rfl (sub_cons rfl (sub_cons rfl (sub_cons rfl (sub_cons rfl (sub_cons rfl (sub_cons rfl sub_nil))))))))⟩
  · have hlt := of_decide_eq_false hlt
    conv => whnf
    clear hKq Kq
    refine hKq _ _ _ (V.Sub.refl _) ?_
    clear hKq Kq
    conv => whnf
    refine VSeq.mk fun Kq hKq => ?_
    conv => whnf
    obtain rfl : k = r * c := by omega
    rw [hR, hC]
    have hdi2 : ((i : Int) / (c : Int)) = ((i / c : Nat) : Int) := by simp
    have hmi2 : ((i : Int) % (c : Int)) = ((i % c : Nat) : Int) := by simp
    have hpi := pow_lt64 i (by omega)
    have hl1 := lineS_lt48 r c (i / c) h (by omega)
    have hl2 := lineS_lt48 r c (r + i % c) h (by omega)
    have hb1 : (kr / 2 ^ (i / c) % 2 = 1) ↔ kr.testBit (i / c) = true := by rw [div_bit]; split <;> simp [*]
    have hb2 : (kc / 2 ^ (i % c) % 2 = 1) ↔ kc.testBit (i % c) = true := by rw [div_bit]; split <;> simp [*]
    have hd1 : kr / 2 ^ (i / c) < 18446744073709551616 := Nat.lt_of_le_of_lt (Nat.div_le_self _ _) h1
    have hd2 : kc / 2 ^ (i % c) < 18446744073709551616 := Nat.lt_of_le_of_lt (Nat.div_le_self _ _) h2
    refine v_mixA TTok FFok mixed [(0, false), (1, false), (2, false), (3, false), (4, false), (5, false), (6, false), (7, false), (8, false), (9, false), (10, false), (11, false), (12, false), (13, false), (14, false), (15, false), (16, false), (17, false), (18, false), (19, false), (20, false), (21, false), (22, false), (23, false), (24, false), (25, false), (26, false), (27, false), (28, false), (29, false), (30, false), (31, false), (32, false), (33, false), (34, false)] (by kernel_rfl) ?_
    conv => whnf
    refine ⟨_, fun w' hx' => Blk.ld (off := 1) (Blk.ext (hp.get (i := 0) rfl) hx') TTok rfl rfl, ?_⟩
    conv => whnf
    refine And.intro (by omega) ?_
    conv => whnf
    refine ⟨i / c, ⟨hdi2, by omega⟩, ?_⟩
    conv => whnf
    rw [shr_cast]
    refine ⟨kr / 2 ^ (i / c), 1, kr / 2 ^ (i / c) % 2, ⟨by first | rfl | omega, by first | rfl | omega, by omega, by omega⟩, by (dsimp only; exact Nat.and_one_is_mod _), ?_⟩
    conv => whnf
    refine ⟨fun q1 => ?_, fun q1 => ?_⟩
    · have q1 := of_decide_eq_true q1
      conv => whnf
      refine ⟨set, lineS r c (i / c), set &&& lineS r c (i / c), ⟨by first | rfl | omega, by first | rfl | omega, by omega, by omega⟩, rfl, ?_⟩
      conv => whnf
      refine ⟨i, ⟨by first | rfl | omega, by omega⟩, ?_⟩
      conv => whnf
      rw [shl_one i (by omega)]
      refine ⟨fun q2 => ?_, fun q2 => ?_⟩
      · have q2 := of_decide_eq_true q2
        conv => whnf
        intro w hx
        try (have hp := hp.call hx)
        conv => whnf
        refine hKq _ _ _ (V.Sub.refl _) ?_
        clear hKq Kq
        conv => whnf
        refine ⟨(congrArg Value.bool ?_ : Value.bool true = _), hp.ext⟩
        rw [Bool.eq_iff_iff]
        unfold aloneB
        simp only [Bool.or_eq_true, Bool.and_eq_true, decide_eq_true_eq, ← hb1, ← hb2, Int.natCast_inj, true_iff, false_iff, Bool.false_eq_true]
        omega
      · have q2 := of_decide_eq_false q2
        conv => whnf
        refine ⟨_, fun w' hx' => Blk.ld (off := 2) (Blk.ext (hp.get (i := 0) rfl) hx') TTok rfl rfl, ?_⟩
        conv => whnf
        refine And.intro (by omega) ?_
        conv => whnf
        refine ⟨i % c, ⟨hmi2, by omega⟩, ?_⟩
        conv => whnf
        rw [shr_cast]
        refine ⟨kc / 2 ^ (i % c), 1, kc / 2 ^ (i % c) % 2, ⟨by first | rfl | omega, by first | rfl | omega, by omega, by omega⟩, by (dsimp only; exact Nat.and_one_is_mod _), ?_⟩
        conv => whnf
        refine ⟨fun q3 => ?_, fun q3 => ?_⟩
        · have q3 := of_decide_eq_true q3
          conv => whnf
          refine ⟨set, lineS r c (r + i % c), set &&& lineS r c (r + i % c), ⟨by first | rfl | omega, by first | rfl | omega, by omega, by omega⟩, rfl, ?_⟩
          conv => whnf
          refine ⟨i, ⟨by first | rfl | omega, by omega⟩, ?_⟩
          conv => whnf
          rw [shl_one i (by omega)]
          intro w hx
          try (have hp := hp.call hx)
          conv => whnf
          refine hKq _ _ _ (V.Sub.refl _) ?_
          clear hKq Kq
          conv => whnf
          refine ⟨(congrArg Value.bool ?_ : Value.bool (decide (((set &&& lineS r c (r + i % c) : Nat) : Int) = ((2 ^ i : Nat) : Int))) = _), hp.ext⟩
          rw [Bool.eq_iff_iff]
          unfold aloneB
          simp only [Bool.or_eq_true, Bool.and_eq_true, decide_eq_true_eq, ← hb1, ← hb2, Int.natCast_inj, true_iff, false_iff, Bool.false_eq_true]
          omega
        · have q3 := of_decide_eq_false q3
          conv => whnf
          intro w hx
          try (have hp := hp.call hx)
          conv => whnf
          refine hKq _ _ _ (V.Sub.refl _) ?_
          clear hKq Kq
          conv => whnf
          refine ⟨(congrArg Value.bool ?_ : Value.bool false = _), hp.ext⟩
          rw [Bool.eq_iff_iff]
          unfold aloneB
          simp only [Bool.or_eq_true, Bool.and_eq_true, decide_eq_true_eq, ← hb1, ← hb2, Int.natCast_inj, true_iff, false_iff, Bool.false_eq_true]
          omega
    · have q1 := of_decide_eq_false q1
      conv => whnf
      refine ⟨_, fun w' hx' => Blk.ld (off := 2) (Blk.ext (hp.get (i := 0) rfl) hx') TTok rfl rfl, ?_⟩
      conv => whnf
      refine And.intro (by omega) ?_
      conv => whnf
      refine ⟨i % c, ⟨hmi2, by omega⟩, ?_⟩
      conv => whnf
      rw [shr_cast]
      refine ⟨kc / 2 ^ (i % c), 1, kc / 2 ^ (i % c) % 2, ⟨by first | rfl | omega, by first | rfl | omega, by omega, by omega⟩, by (dsimp only; exact Nat.and_one_is_mod _), ?_⟩
      conv => whnf
      refine ⟨fun q3 => ?_, fun q3 => ?_⟩
      · have q3 := of_decide_eq_true q3
        conv => whnf
        refine ⟨set, lineS r c (r + i % c), set &&& lineS r c (r + i % c), ⟨by first | rfl | omega, by first | rfl | omega, by omega, by omega⟩, rfl, ?_⟩
        conv => whnf
        refine ⟨i, ⟨by first | rfl | omega, by omega⟩, ?_⟩
        conv => whnf
        rw [shl_one i (by omega)]
        intro w hx
        try (have hp := hp.call hx)
        conv => whnf
        refine hKq _ _ _ (V.Sub.refl _) ?_
        clear hKq Kq
        conv => whnf
        refine ⟨(congrArg Value.bool ?_ : Value.bool (decide (((set &&& lineS r c (r + i % c) : Nat) : Int) = ((2 ^ i : Nat) : Int))) = _), hp.ext⟩
        rw [Bool.eq_iff_iff]
        unfold aloneB
        simp only [Bool.or_eq_true, Bool.and_eq_true, decide_eq_true_eq, ← hb1, ← hb2, Int.natCast_inj, true_iff, false_iff, Bool.false_eq_true]
        omega
      · have q3 := of_decide_eq_false q3
        conv => whnf
        intro w hx
        try (have hp := hp.call hx)
        conv => whnf
        refine hKq _ _ _ (V.Sub.refl _) ?_
        clear hKq Kq
        conv => whnf
        refine ⟨(congrArg Value.bool ?_ : Value.bool false = _), hp.ext⟩
        rw [Bool.eq_iff_iff]
        unfold aloneB
        simp only [Bool.or_eq_true, Bool.and_eq_true, decide_eq_true_eq, ← hb1, ← hb2, Int.natCast_inj, true_iff, false_iff, Bool.false_eq_true]
        omega
end Go.Proofs.YtpiilfamfinieaaDoor
