/- Chapter 05: differences and products of limbs. -/
import Derived.Test.YtejphmgpndgliaaC05B
import Derived.Test.YtejphmgpndgliaaQR
namespace Go.Proofs.Ytejphmgpndgliaa
set_option linter.unusedSimpArgs false
set_option linter.unusedVariables false
open Go.RowKit V
theorem subL_get (a b : List Nat) (i : Nat) (h : i < 5) : (subL a b).getD i 0 = a.getD i 0 + (9007199254740988 - b.getD i 0) - (if i = 0 then 72 else 0) := by
  unfold subL
  rw [List.getD_eq_getElem?_getD, List.getElem?_map, List.getElem?_range h]; rfl
/-- the differences, before 72 is taken away -/
def subL0 (a b : List Nat) : List Nat := (List.range 5).map fun i => a.getD i 0 + (9007199254740988 - b.getD i 0)
theorem subL0_len (a b : List Nat) : (subL0 a b).length = 5 := by simp [subL0]
theorem subL0_get (a b : List Nat) (i : Nat) (h : i < 5) : (subL0 a b).getD i 0 = a.getD i 0 + (9007199254740988 - b.getD i 0) := by
  unfold subL0
  rw [List.getD_eq_getElem?_getD, List.getElem?_map, List.getElem?_range h]; rfl
theorem subL0_set (a b : List Nat) : (subL0 a b).set 0 ((subL0 a b).getD 0 0 - 72) = subL a b := by
  apply List.ext_getElem?
  intro i
  rw [List.getElem?_set]
  by_cases h : i < 5
  · by_cases h0 : 0 = i
    · subst h0
      rw [if_pos rfl, if_pos (by rw [subL0_len]; decide), getD_of (l := subL a b) (by rw [subL_len]; decide), subL_get a b 0 (by decide), subL0_get a b 0 (by decide)]
      rfl
    · rw [if_neg h0, getD_of (l := subL a b) (by rw [subL_len]; exact h), getD_of (l := subL0 a b) (by rw [subL0_len]; exact h), subL_get a b i h, subL0_get a b i h, if_neg (Ne.symm h0)]
      rfl
  · rw [if_neg (by omega), List.getElem?_eq_none (by rw [subL0_len]; omega), List.getElem?_eq_none (by rw [subL_len]; omega)]
set_option maxHeartbeats 4000000 in
theorem minus_p (a b : List Nat) (ha : Bd a) (hb : Bd b) : PureF Try.prog 56 #[fV a, fV b] (fV (minusF a b)) := by
  have hcar := carry_p (subL a b) (subL_len a b) (subL_le a b ha)
  have hset := subL0_set a b
  have hg0 := getD_of (l := subL0 a b) (i := 0) (by rw [subL0_len]; decide)
  rw [subL0_get a b 0 (by decide)] at hset hg0
  have hl0 := hb.get 0
  have hl1 := ha.get 0
  unfold fV at hcar ⊢
  unfold BB at hl0 hl1
  have hal := ha.1
  have hbl := hb.1
  have hrl := subL0_len a b
  first | refine v_pure TTok FFok Try.func56 rfl rfl fun w0 => ?_ | refine v_pure (args := []) TTok FFok Try.func56 rfl rfl fun w0 => ?_
  conv => whnf
  repeat (first | (refine VSeq.mk fun Kq hKq => ?_; conv => whnf) | (refine hKq _ _ _ (V.Sub.refl _) ?_; clear hKq Kq; conv => whnf) | (clear hKq Kq; refine hKq _ _ _ (V.Sub.refl _) ?_; clear hKq Kq; conv => whnf) | (clear hKq Kq; clear hKq Kq; refine hKq _ _ _ (V.Sub.refl _) ?_; clear hKq Kq; conv => whnf) | (clear hKq Kq; clear hKq Kq; clear hKq Kq; refine hKq _ _ _ (V.Sub.refl _) ?_; clear hKq Kq; conv => whnf) | (clear hKq Kq; clear hKq Kq; clear hKq Kq; clear hKq Kq; refine hKq _ _ _ (V.Sub.refl _) ?_; clear hKq Kq; conv => whnf) | (clear hKq Kq; clear hKq Kq; clear hKq Kq; clear hKq Kq; clear hKq Kq; refine hKq _ _ _ (V.Sub.refl _) ?_; clear hKq Kq; conv => whnf) | (refine And.intro (by omega) ?_; conv => whnf))
  have hp := Hp.nil w0
  refine hp.kbox (kw .u64 a) rfl fun qa w hp hx => ?_
  conv => whnf
  repeat (first | (refine VSeq.mk fun Kq hKq => ?_; conv => whnf) | (refine hKq _ _ _ (V.Sub.refl _) ?_; clear hKq Kq; conv => whnf) | (clear hKq Kq; refine hKq _ _ _ (V.Sub.refl _) ?_; clear hKq Kq; conv => whnf) | (clear hKq Kq; clear hKq Kq; refine hKq _ _ _ (V.Sub.refl _) ?_; clear hKq Kq; conv => whnf) | (clear hKq Kq; clear hKq Kq; clear hKq Kq; refine hKq _ _ _ (V.Sub.refl _) ?_; clear hKq Kq; conv => whnf) | (clear hKq Kq; clear hKq Kq; clear hKq Kq; clear hKq Kq; refine hKq _ _ _ (V.Sub.refl _) ?_; clear hKq Kq; conv => whnf) | (clear hKq Kq; clear hKq Kq; clear hKq Kq; clear hKq Kq; clear hKq Kq; refine hKq _ _ _ (V.Sub.refl _) ?_; clear hKq Kq; conv => whnf) | (refine And.intro (by omega) ?_; conv => whnf))
  refine hp.kbox (kw .u64 b) rfl fun qb w hp hx => ?_
  conv => whnf
  repeat (first | (refine VSeq.mk fun Kq hKq => ?_; conv => whnf) | (refine hKq _ _ _ (V.Sub.refl _) ?_; clear hKq Kq; conv => whnf) | (clear hKq Kq; refine hKq _ _ _ (V.Sub.refl _) ?_; clear hKq Kq; conv => whnf) | (clear hKq Kq; clear hKq Kq; refine hKq _ _ _ (V.Sub.refl _) ?_; clear hKq Kq; conv => whnf) | (clear hKq Kq; clear hKq Kq; clear hKq Kq; refine hKq _ _ _ (V.Sub.refl _) ?_; clear hKq Kq; conv => whnf) | (clear hKq Kq; clear hKq Kq; clear hKq Kq; clear hKq Kq; refine hKq _ _ _ (V.Sub.refl _) ?_; clear hKq Kq; conv => whnf) | (clear hKq Kq; clear hKq Kq; clear hKq Kq; clear hKq Kq; clear hKq Kq; refine hKq _ _ _ (V.Sub.refl _) ?_; clear hKq Kq; conv => whnf) | (refine And.intro (by omega) ?_; conv => whnf))
  refine hp.kalloc z68 fun qr w hp hx => ?_
  conv => whnf
  repeat (first | (refine VSeq.mk fun Kq hKq => ?_; conv => whnf) | (refine hKq _ _ _ (V.Sub.refl _) ?_; clear hKq Kq; conv => whnf) | (clear hKq Kq; refine hKq _ _ _ (V.Sub.refl _) ?_; clear hKq Kq; conv => whnf) | (clear hKq Kq; clear hKq Kq; refine hKq _ _ _ (V.Sub.refl _) ?_; clear hKq Kq; conv => whnf) | (clear hKq Kq; clear hKq Kq; clear hKq Kq; refine hKq _ _ _ (V.Sub.refl _) ?_; clear hKq Kq; conv => whnf) | (clear hKq Kq; clear hKq Kq; clear hKq Kq; clear hKq Kq; refine hKq _ _ _ (V.Sub.refl _) ?_; clear hKq Kq; conv => whnf) | (clear hKq Kq; clear hKq Kq; clear hKq Kq; clear hKq Kq; clear hKq Kq; refine hKq _ _ _ (V.Sub.refl _) ?_; clear hKq Kq; conv => whnf) | (refine And.intro (by omega) ?_; conv => whnf))
  rw [show kw .u64 a = kw .u64 (upto5 a (subL0 a b) 0) by rw [upto5_zero]] at hp
  refine ⟨fun m e w => ∃ (i : Nat), m + i = 5 ∧ e = [(2, .v (.pointer (some ⟨qa, 0, none⟩))), (3, .v (.pointer (some ⟨qb, 0, none⟩))), (4, .v (.pointer (some ⟨qr, 0, none⟩))), (6, .v (.int .i64 i))] ∧
      HpM [] w0 w [blk qr (List.replicate 5 (.int .u64 0)) 68, blk qb (kw .u64 b) 68, blk qa (kw .u64 (upto5 a (subL0 a b) i)) 68],
    ⟨5, _, ⟨0, by omega, rfl, hp⟩, sub_cons rfl (sub_cons rfl (sub_cons rfl (sub_cons rfl sub_nil)))⟩, ?_⟩
  clear hp hx
  repeat clear hp
  rintro m _ w ⟨i, hm, rfl, hp⟩
  conv => whnf
  repeat (first | (refine VSeq.mk fun Kq hKq => ?_; conv => whnf) | (refine hKq _ _ _ (V.Sub.refl _) ?_; clear hKq Kq; conv => whnf) | (clear hKq Kq; refine hKq _ _ _ (V.Sub.refl _) ?_; clear hKq Kq; conv => whnf) | (clear hKq Kq; clear hKq Kq; refine hKq _ _ _ (V.Sub.refl _) ?_; clear hKq Kq; conv => whnf) | (clear hKq Kq; clear hKq Kq; clear hKq Kq; refine hKq _ _ _ (V.Sub.refl _) ?_; clear hKq Kq; conv => whnf) | (clear hKq Kq; clear hKq Kq; clear hKq Kq; clear hKq Kq; refine hKq _ _ _ (V.Sub.refl _) ?_; clear hKq Kq; conv => whnf) | (clear hKq Kq; clear hKq Kq; clear hKq Kq; clear hKq Kq; clear hKq Kq; refine hKq _ _ _ (V.Sub.refl _) ?_; clear hKq Kq; conv => whnf) | (refine And.intro (by omega) ?_; conv => whnf))
  refine ⟨fun hlt => ?_, fun hlt => ?_⟩
  · have hlt := of_decide_eq_true hlt
    conv => whnf
    repeat (first | (refine VSeq.mk fun Kq hKq => ?_; conv => whnf) | (refine hKq _ _ _ (V.Sub.refl _) ?_; clear hKq Kq; conv => whnf) | (clear hKq Kq; refine hKq _ _ _ (V.Sub.refl _) ?_; clear hKq Kq; conv => whnf) | (clear hKq Kq; clear hKq Kq; refine hKq _ _ _ (V.Sub.refl _) ?_; clear hKq Kq; conv => whnf) | (clear hKq Kq; clear hKq Kq; clear hKq Kq; refine hKq _ _ _ (V.Sub.refl _) ?_; clear hKq Kq; conv => whnf) | (clear hKq Kq; clear hKq Kq; clear hKq Kq; clear hKq Kq; refine hKq _ _ _ (V.Sub.refl _) ?_; clear hKq Kq; conv => whnf) | (clear hKq Kq; clear hKq Kq; clear hKq Kq; clear hKq Kq; clear hKq Kq; refine hKq _ _ _ (V.Sub.refl _) ?_; clear hKq Kq; conv => whnf) | (refine And.intro (by omega) ?_; conv => whnf))
    have hi : i < 5 := by omega
    have hga := upto5_get a (subL0 a b) hrl hal i hi
    have hgb := getD_of (l := b) (i := i) (by omega)
    have hla := ha.get i
    have hlb := hb.get i
    have hst := upto5_set a (subL0 a b) hrl hal i hi
    have hul := upto5_len a (subL0 a b) hrl hal i (by omega)
    rw [subL0_get a b i hi] at hst
    unfold BB at hla hlb
    refine v_mix TTok FFok mixed 9 [(0, false), (1, false), (2, false), (3, false), (4, false), (5, false), (6, false), (7, false), (8, false)] (by kernel_rfl) ?_
    conv => whnf
    repeat (first | (refine VSeq.mk fun Kq hKq => ?_; conv => whnf) | (refine hKq _ _ _ (V.Sub.refl _) ?_; clear hKq Kq; conv => whnf) | (clear hKq Kq; refine hKq _ _ _ (V.Sub.refl _) ?_; clear hKq Kq; conv => whnf) | (clear hKq Kq; clear hKq Kq; refine hKq _ _ _ (V.Sub.refl _) ?_; clear hKq Kq; conv => whnf) | (clear hKq Kq; clear hKq Kq; clear hKq Kq; refine hKq _ _ _ (V.Sub.refl _) ?_; clear hKq Kq; conv => whnf) | (clear hKq Kq; clear hKq Kq; clear hKq Kq; clear hKq Kq; refine hKq _ _ _ (V.Sub.refl _) ?_; clear hKq Kq; conv => whnf) | (clear hKq Kq; clear hKq Kq; clear hKq Kq; clear hKq Kq; clear hKq Kq; refine hKq _ _ _ (V.Sub.refl _) ?_; clear hKq Kq; conv => whnf) | (refine And.intro (by omega) ?_; conv => whnf))
    refine ⟨i, ⟨by first | rfl | omega, by omega⟩, ?_⟩
    conv => whnf
    repeat (first | (refine VSeq.mk fun Kq hKq => ?_; conv => whnf) | (refine hKq _ _ _ (V.Sub.refl _) ?_; clear hKq Kq; conv => whnf) | (clear hKq Kq; refine hKq _ _ _ (V.Sub.refl _) ?_; clear hKq Kq; conv => whnf) | (clear hKq Kq; clear hKq Kq; refine hKq _ _ _ (V.Sub.refl _) ?_; clear hKq Kq; conv => whnf) | (clear hKq Kq; clear hKq Kq; clear hKq Kq; refine hKq _ _ _ (V.Sub.refl _) ?_; clear hKq Kq; conv => whnf) | (clear hKq Kq; clear hKq Kq; clear hKq Kq; clear hKq Kq; refine hKq _ _ _ (V.Sub.refl _) ?_; clear hKq Kq; conv => whnf) | (clear hKq Kq; clear hKq Kq; clear hKq Kq; clear hKq Kq; clear hKq Kq; refine hKq _ _ _ (V.Sub.refl _) ?_; clear hKq Kq; conv => whnf) | (refine And.intro (by omega) ?_; conv => whnf))
    refine ⟨_, fun w' hx' => Blk.ld (Blk.ext (hp.get (i := 2) rfl) hx') TTok rfl (kw_get hga), ?_⟩
    conv => whnf
    repeat (first | (refine VSeq.mk fun Kq hKq => ?_; conv => whnf) | (refine hKq _ _ _ (V.Sub.refl _) ?_; clear hKq Kq; conv => whnf) | (clear hKq Kq; refine hKq _ _ _ (V.Sub.refl _) ?_; clear hKq Kq; conv => whnf) | (clear hKq Kq; clear hKq Kq; refine hKq _ _ _ (V.Sub.refl _) ?_; clear hKq Kq; conv => whnf) | (clear hKq Kq; clear hKq Kq; clear hKq Kq; refine hKq _ _ _ (V.Sub.refl _) ?_; clear hKq Kq; conv => whnf) | (clear hKq Kq; clear hKq Kq; clear hKq Kq; clear hKq Kq; refine hKq _ _ _ (V.Sub.refl _) ?_; clear hKq Kq; conv => whnf) | (clear hKq Kq; clear hKq Kq; clear hKq Kq; clear hKq Kq; clear hKq Kq; refine hKq _ _ _ (V.Sub.refl _) ?_; clear hKq Kq; conv => whnf) | (refine And.intro (by omega) ?_; conv => whnf))
    refine ⟨i, ⟨by first | rfl | omega, by omega⟩, ?_⟩
    conv => whnf
    repeat (first | (refine VSeq.mk fun Kq hKq => ?_; conv => whnf) | (refine hKq _ _ _ (V.Sub.refl _) ?_; clear hKq Kq; conv => whnf) | (clear hKq Kq; refine hKq _ _ _ (V.Sub.refl _) ?_; clear hKq Kq; conv => whnf) | (clear hKq Kq; clear hKq Kq; refine hKq _ _ _ (V.Sub.refl _) ?_; clear hKq Kq; conv => whnf) | (clear hKq Kq; clear hKq Kq; clear hKq Kq; refine hKq _ _ _ (V.Sub.refl _) ?_; clear hKq Kq; conv => whnf) | (clear hKq Kq; clear hKq Kq; clear hKq Kq; clear hKq Kq; refine hKq _ _ _ (V.Sub.refl _) ?_; clear hKq Kq; conv => whnf) | (clear hKq Kq; clear hKq Kq; clear hKq Kq; clear hKq Kq; clear hKq Kq; refine hKq _ _ _ (V.Sub.refl _) ?_; clear hKq Kq; conv => whnf) | (refine And.intro (by omega) ?_; conv => whnf))
    refine ⟨_, fun w' hx' => Blk.ld (Blk.ext (hp.get (i := 1) rfl) hx') TTok rfl (kw_get hgb), ?_⟩
    conv => whnf
    repeat (first | (refine VSeq.mk fun Kq hKq => ?_; conv => whnf) | (refine hKq _ _ _ (V.Sub.refl _) ?_; clear hKq Kq; conv => whnf) | (clear hKq Kq; refine hKq _ _ _ (V.Sub.refl _) ?_; clear hKq Kq; conv => whnf) | (clear hKq Kq; clear hKq Kq; refine hKq _ _ _ (V.Sub.refl _) ?_; clear hKq Kq; conv => whnf) | (clear hKq Kq; clear hKq Kq; clear hKq Kq; refine hKq _ _ _ (V.Sub.refl _) ?_; clear hKq Kq; conv => whnf) | (clear hKq Kq; clear hKq Kq; clear hKq Kq; clear hKq Kq; refine hKq _ _ _ (V.Sub.refl _) ?_; clear hKq Kq; conv => whnf) | (clear hKq Kq; clear hKq Kq; clear hKq Kq; clear hKq Kq; clear hKq Kq; refine hKq _ _ _ (V.Sub.refl _) ?_; clear hKq Kq; conv => whnf) | (refine And.intro (by omega) ?_; conv => whnf))
    rw [show ((((a.getD i 0 : Nat) : Int) + (9007199254740988 - ((b.getD i 0 : Nat) : Int)) % 18446744073709551616) % 18446744073709551616) = ((a.getD i 0 + (9007199254740988 - b.getD i 0) : Nat) : Int) by omega]
    refine ⟨i, ⟨by first | rfl | omega, by omega⟩, ?_⟩
    conv => whnf
    repeat (first | (refine VSeq.mk fun Kq hKq => ?_; conv => whnf) | (refine hKq _ _ _ (V.Sub.refl _) ?_; clear hKq Kq; conv => whnf) | (clear hKq Kq; refine hKq _ _ _ (V.Sub.refl _) ?_; clear hKq Kq; conv => whnf) | (clear hKq Kq; clear hKq Kq; refine hKq _ _ _ (V.Sub.refl _) ?_; clear hKq Kq; conv => whnf) | (clear hKq Kq; clear hKq Kq; clear hKq Kq; refine hKq _ _ _ (V.Sub.refl _) ?_; clear hKq Kq; conv => whnf) | (clear hKq Kq; clear hKq Kq; clear hKq Kq; clear hKq Kq; refine hKq _ _ _ (V.Sub.refl _) ?_; clear hKq Kq; conv => whnf) | (clear hKq Kq; clear hKq Kq; clear hKq Kq; clear hKq Kq; clear hKq Kq; refine hKq _ _ _ (V.Sub.refl _) ?_; clear hKq Kq; conv => whnf) | (refine And.intro (by omega) ?_; conv => whnf))
    intro w hx
    try (have hp := hp.call hx)
    conv => whnf
    repeat (first | (refine VSeq.mk fun Kq hKq => ?_; conv => whnf) | (refine hKq _ _ _ (V.Sub.refl _) ?_; clear hKq Kq; conv => whnf) | (clear hKq Kq; refine hKq _ _ _ (V.Sub.refl _) ?_; clear hKq Kq; conv => whnf) | (clear hKq Kq; clear hKq Kq; refine hKq _ _ _ (V.Sub.refl _) ?_; clear hKq Kq; conv => whnf) | (clear hKq Kq; clear hKq Kq; clear hKq Kq; refine hKq _ _ _ (V.Sub.refl _) ?_; clear hKq Kq; conv => whnf) | (clear hKq Kq; clear hKq Kq; clear hKq Kq; clear hKq Kq; refine hKq _ _ _ (V.Sub.refl _) ?_; clear hKq Kq; conv => whnf) | (clear hKq Kq; clear hKq Kq; clear hKq Kq; clear hKq Kq; clear hKq Kq; refine hKq _ _ _ (V.Sub.refl _) ?_; clear hKq Kq; conv => whnf) | (refine And.intro (by omega) ?_; conv => whnf))
    refine hp.kst1 (off := i) TTok (by rfl) 2 (by rfl) (by rfl) (by rfl) (by rw [kw_len]; omega) fun w hp => ?_
    try simp only [List.set_cons_zero, List.set_cons_succ, EV.val] at hp
    conv => whnf
    repeat (first | (refine VSeq.mk fun Kq hKq => ?_; conv => whnf) | (refine hKq _ _ _ (V.Sub.refl _) ?_; clear hKq Kq; conv => whnf) | (clear hKq Kq; refine hKq _ _ _ (V.Sub.refl _) ?_; clear hKq Kq; conv => whnf) | (clear hKq Kq; clear hKq Kq; refine hKq _ _ _ (V.Sub.refl _) ?_; clear hKq Kq; conv => whnf) | (clear hKq Kq; clear hKq Kq; clear hKq Kq; refine hKq _ _ _ (V.Sub.refl _) ?_; clear hKq Kq; conv => whnf) | (clear hKq Kq; clear hKq Kq; clear hKq Kq; clear hKq Kq; refine hKq _ _ _ (V.Sub.refl _) ?_; clear hKq Kq; conv => whnf) | (clear hKq Kq; clear hKq Kq; clear hKq Kq; clear hKq Kq; clear hKq Kq; refine hKq _ _ _ (V.Sub.refl _) ?_; clear hKq Kq; conv => whnf) | (refine And.intro (by omega) ?_; conv => whnf))
    rw [kw_set, hst] at hp
    exact ⟨m - 1, _, by omega, ⟨i + 1, by omega, rfl, hp⟩, sub_cons rfl (sub_cons rfl (sub_cons rfl (sub_cons rfl sub_nil)))⟩
  · have hlt := of_decide_eq_false hlt
    conv => whnf
    repeat (first | (refine VSeq.mk fun Kq hKq => ?_; conv => whnf) | (refine hKq _ _ _ (V.Sub.refl _) ?_; clear hKq Kq; conv => whnf) | (clear hKq Kq; refine hKq _ _ _ (V.Sub.refl _) ?_; clear hKq Kq; conv => whnf) | (clear hKq Kq; clear hKq Kq; refine hKq _ _ _ (V.Sub.refl _) ?_; clear hKq Kq; conv => whnf) | (clear hKq Kq; clear hKq Kq; clear hKq Kq; refine hKq _ _ _ (V.Sub.refl _) ?_; clear hKq Kq; conv => whnf) | (clear hKq Kq; clear hKq Kq; clear hKq Kq; clear hKq Kq; refine hKq _ _ _ (V.Sub.refl _) ?_; clear hKq Kq; conv => whnf) | (clear hKq Kq; clear hKq Kq; clear hKq Kq; clear hKq Kq; clear hKq Kq; refine hKq _ _ _ (V.Sub.refl _) ?_; clear hKq Kq; conv => whnf) | (refine And.intro (by omega) ?_; conv => whnf))
    obtain rfl : i = 5 := by omega
    rw [upto5_all a (subL0 a b) hrl hal] at hp
    refine ⟨0, ⟨by first | rfl | omega, by omega⟩, ?_⟩
    conv => whnf
    repeat (first | (refine VSeq.mk fun Kq hKq => ?_; conv => whnf) | (refine hKq _ _ _ (V.Sub.refl _) ?_; clear hKq Kq; conv => whnf) | (clear hKq Kq; refine hKq _ _ _ (V.Sub.refl _) ?_; clear hKq Kq; conv => whnf) | (clear hKq Kq; clear hKq Kq; refine hKq _ _ _ (V.Sub.refl _) ?_; clear hKq Kq; conv => whnf) | (clear hKq Kq; clear hKq Kq; clear hKq Kq; refine hKq _ _ _ (V.Sub.refl _) ?_; clear hKq Kq; conv => whnf) | (clear hKq Kq; clear hKq Kq; clear hKq Kq; clear hKq Kq; refine hKq _ _ _ (V.Sub.refl _) ?_; clear hKq Kq; conv => whnf) | (clear hKq Kq; clear hKq Kq; clear hKq Kq; clear hKq Kq; clear hKq Kq; refine hKq _ _ _ (V.Sub.refl _) ?_; clear hKq Kq; conv => whnf) | (refine And.intro (by omega) ?_; conv => whnf))
    refine ⟨_, _, Blk.ld (hp.get (i := 2) rfl) TTok rfl (kw_get hg0), ?_⟩
    conv => whnf
    repeat (first | (refine VSeq.mk fun Kq hKq => ?_; conv => whnf) | (refine hKq _ _ _ (V.Sub.refl _) ?_; clear hKq Kq; conv => whnf) | (clear hKq Kq; refine hKq _ _ _ (V.Sub.refl _) ?_; clear hKq Kq; conv => whnf) | (clear hKq Kq; clear hKq Kq; refine hKq _ _ _ (V.Sub.refl _) ?_; clear hKq Kq; conv => whnf) | (clear hKq Kq; clear hKq Kq; clear hKq Kq; refine hKq _ _ _ (V.Sub.refl _) ?_; clear hKq Kq; conv => whnf) | (clear hKq Kq; clear hKq Kq; clear hKq Kq; clear hKq Kq; refine hKq _ _ _ (V.Sub.refl _) ?_; clear hKq Kq; conv => whnf) | (clear hKq Kq; clear hKq Kq; clear hKq Kq; clear hKq Kq; clear hKq Kq; refine hKq _ _ _ (V.Sub.refl _) ?_; clear hKq Kq; conv => whnf) | (refine And.intro (by omega) ?_; conv => whnf))
    rw [show (((a.getD 0 0 + (9007199254740988 - b.getD 0 0) : Nat) : Int) - 72) % 18446744073709551616 = ((a.getD 0 0 + (9007199254740988 - b.getD 0 0) - 72 : Nat) : Int) by omega]
    refine ⟨0, ⟨by first | rfl | omega, by omega⟩, ?_⟩
    conv => whnf
    repeat (first | (refine VSeq.mk fun Kq hKq => ?_; conv => whnf) | (refine hKq _ _ _ (V.Sub.refl _) ?_; clear hKq Kq; conv => whnf) | (clear hKq Kq; refine hKq _ _ _ (V.Sub.refl _) ?_; clear hKq Kq; conv => whnf) | (clear hKq Kq; clear hKq Kq; refine hKq _ _ _ (V.Sub.refl _) ?_; clear hKq Kq; conv => whnf) | (clear hKq Kq; clear hKq Kq; clear hKq Kq; refine hKq _ _ _ (V.Sub.refl _) ?_; clear hKq Kq; conv => whnf) | (clear hKq Kq; clear hKq Kq; clear hKq Kq; clear hKq Kq; refine hKq _ _ _ (V.Sub.refl _) ?_; clear hKq Kq; conv => whnf) | (clear hKq Kq; clear hKq Kq; clear hKq Kq; clear hKq Kq; clear hKq Kq; refine hKq _ _ _ (V.Sub.refl _) ?_; clear hKq Kq; conv => whnf) | (refine And.intro (by omega) ?_; conv => whnf))
    refine hp.kst1 (off := 0) TTok (by rfl) 2 (by rfl) (by rfl) (by rfl) (by rw [kw_len]; omega) fun w hp => ?_
    try simp only [List.set_cons_zero, List.set_cons_succ, EV.val] at hp
    conv => whnf
    repeat (first | (refine VSeq.mk fun Kq hKq => ?_; conv => whnf) | (refine hKq _ _ _ (V.Sub.refl _) ?_; clear hKq Kq; conv => whnf) | (clear hKq Kq; refine hKq _ _ _ (V.Sub.refl _) ?_; clear hKq Kq; conv => whnf) | (clear hKq Kq; clear hKq Kq; refine hKq _ _ _ (V.Sub.refl _) ?_; clear hKq Kq; conv => whnf) | (clear hKq Kq; clear hKq Kq; clear hKq Kq; refine hKq _ _ _ (V.Sub.refl _) ?_; clear hKq Kq; conv => whnf) | (clear hKq Kq; clear hKq Kq; clear hKq Kq; clear hKq Kq; refine hKq _ _ _ (V.Sub.refl _) ?_; clear hKq Kq; conv => whnf) | (clear hKq Kq; clear hKq Kq; clear hKq Kq; clear hKq Kq; clear hKq Kq; refine hKq _ _ _ (V.Sub.refl _) ?_; clear hKq Kq; conv => whnf) | (refine And.intro (by omega) ?_; conv => whnf))
    rw [kw_set, hset] at hp
    have hsl := subL_len a b
    refine ⟨_, _, Blk.ldN (hp.get (i := 2) rfl) TTok rfl (by rw [kw_len, hsl]), ?_⟩
    conv => whnf
    repeat (first | (refine VSeq.mk fun Kq hKq => ?_; conv => whnf) | (refine hKq _ _ _ (V.Sub.refl _) ?_; clear hKq Kq; conv => whnf) | (clear hKq Kq; refine hKq _ _ _ (V.Sub.refl _) ?_; clear hKq Kq; conv => whnf) | (clear hKq Kq; clear hKq Kq; refine hKq _ _ _ (V.Sub.refl _) ?_; clear hKq Kq; conv => whnf) | (clear hKq Kq; clear hKq Kq; clear hKq Kq; refine hKq _ _ _ (V.Sub.refl _) ?_; clear hKq Kq; conv => whnf) | (clear hKq Kq; clear hKq Kq; clear hKq Kq; clear hKq Kq; refine hKq _ _ _ (V.Sub.refl _) ?_; clear hKq Kq; conv => whnf) | (clear hKq Kq; clear hKq Kq; clear hKq Kq; clear hKq Kq; clear hKq Kq; refine hKq _ _ _ (V.Sub.refl _) ?_; clear hKq Kq; conv => whnf) | (refine And.intro (by omega) ?_; conv => whnf))
    refine PureF.use (hcar) fun w hx => ?_
    try (have hp := hp.call hx)
    conv => whnf
    repeat (first | (refine VSeq.mk fun Kq hKq => ?_; conv => whnf) | (refine hKq _ _ _ (V.Sub.refl _) ?_; clear hKq Kq; conv => whnf) | (clear hKq Kq; refine hKq _ _ _ (V.Sub.refl _) ?_; clear hKq Kq; conv => whnf) | (clear hKq Kq; clear hKq Kq; refine hKq _ _ _ (V.Sub.refl _) ?_; clear hKq Kq; conv => whnf) | (clear hKq Kq; clear hKq Kq; clear hKq Kq; refine hKq _ _ _ (V.Sub.refl _) ?_; clear hKq Kq; conv => whnf) | (clear hKq Kq; clear hKq Kq; clear hKq Kq; clear hKq Kq; refine hKq _ _ _ (V.Sub.refl _) ?_; clear hKq Kq; conv => whnf) | (clear hKq Kq; clear hKq Kq; clear hKq Kq; clear hKq Kq; clear hKq Kq; refine hKq _ _ _ (V.Sub.refl _) ?_; clear hKq Kq; conv => whnf) | (refine And.intro (by omega) ?_; conv => whnf))
    have hfl : (carF (subL a b)).length = 5 := by rw [carF_len, hsl]
    unfold minusF
    refine hp.kstA TTok rfl 0 rfl (by rw [kw_len, hfl]) (kwu_one _) (by rfl) fun w hp => ?_
    try simp only [List.set_cons_zero, List.set_cons_succ, EV.val] at hp
    conv => whnf
    repeat (first | (refine VSeq.mk fun Kq hKq => ?_; conv => whnf) | (refine hKq _ _ _ (V.Sub.refl _) ?_; clear hKq Kq; conv => whnf) | (clear hKq Kq; refine hKq _ _ _ (V.Sub.refl _) ?_; clear hKq Kq; conv => whnf) | (clear hKq Kq; clear hKq Kq; refine hKq _ _ _ (V.Sub.refl _) ?_; clear hKq Kq; conv => whnf) | (clear hKq Kq; clear hKq Kq; clear hKq Kq; refine hKq _ _ _ (V.Sub.refl _) ?_; clear hKq Kq; conv => whnf) | (clear hKq Kq; clear hKq Kq; clear hKq Kq; clear hKq Kq; refine hKq _ _ _ (V.Sub.refl _) ?_; clear hKq Kq; conv => whnf) | (clear hKq Kq; clear hKq Kq; clear hKq Kq; clear hKq Kq; clear hKq Kq; refine hKq _ _ _ (V.Sub.refl _) ?_; clear hKq Kq; conv => whnf) | (refine And.intro (by omega) ?_; conv => whnf))
    exact ⟨_, Blk.lvN (hp.get (i := 0) rfl) TTok rfl (by rw [kw_len, hfl]), rfl, hp.ext⟩
theorem Mul64_p (x y : Nat) (hx : x < 18446744073709551616) (hy : y < 18446744073709551616) : PureF Try.prog 50 #[.int .u64 x, .int .u64 y] (.tuple #[.int .u64 (x * y / 18446744073709551616 : Nat), .int .u64 (x * y % 18446744073709551616 : Nat)]) := fun w =>
  (Any.bits_Mul64 lays264 x y hx hy w).mono fun e w' ⟨h1, h2⟩ => ⟨h1, by rw [h2]; exact Ext.refl _⟩
theorem add64_x (x y c : Nat) : extP Try.prog 57 #[.int .u64 x, .int .u64 y, .int .u64 c] (add64Entry #[.int .u64 x, .int .u64 y, .int .u64 c]) := fun w => by
  rw [run_callFunc_extern (f := 57) (e := add64Entry) Try.func57 (by kernel_rfl) (by kernel_rfl) (by kernel_rfl) (by kernel_rfl), Sem.run_bind]
  rfl
theorem add64_r (x y c : Nat) (hc : c ≤ 1) (w : World) : (add64Entry #[.int .u64 x, .int .u64 y, .int .u64 c]).run Try.prog w = .ok (.tuple #[.int .u64 ((x + y + c) % 18446744073709551616 : Nat), .int .u64 ((x + y + c) / 18446744073709551616 : Nat)]) w := by
  rw [run_add64 x y c (by omega) (by omega) (by omega) (by omega)]
  congr 4 <;> simp <;> omega
end Go.Proofs.Ytejphmgpndgliaa
